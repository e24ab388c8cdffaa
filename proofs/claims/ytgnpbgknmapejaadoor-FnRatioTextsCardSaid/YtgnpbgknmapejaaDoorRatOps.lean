/- Contracts of the operations on ratios. -/
import Derived.Test.YtgnpbgknmapejaaDoorRat
namespace Go.Proofs.YtgnpbgknmapejaaDoor
open Go.RowKit
set_option linter.unusedVariables false

def ok2 (a b c d : Int) : Bool := isRat a b && isRat c d
def adN (a b c d : Int) : Int := if ok2 a b c d then mkN (a * d + c * b) (b * d) else 0
def adD (a b c d : Int) : Int := if ok2 a b c d then mkD (a * d + c * b) (b * d) else 0
def adC (a b c d : Int) : Int := if ok2 a b c d then mkC (a * d + c * b) (b * d) 2 else 1
def muN (a b c d : Int) : Int := if ok2 a b c d then mkN (a * c) (b * d) else 0
def muD (a b c d : Int) : Int := if ok2 a b c d then mkD (a * c) (b * d) else 0
def muC (a b c d : Int) : Int := if ok2 a b c d then mkC (a * c) (b * d) 2 else 1
def meN (a b c d : Int) : Int := if ok2 a b c d then mkN (a + c) (b + d) else 0
def meD (a b c d : Int) : Int := if ok2 a b c d then mkD (a + c) (b + d) else 0
def meC (a b c d : Int) : Int := if ok2 a b c d then mkC (a + c) (b + d) 2 else 1
def cmV (a b c d : Int) : Int := if ok2 a b c d then cmpP (a * d) (c * b) else 0
def cmC (a b c d : Int) : Int := if ok2 a b c d then 0 else 1
def inN (a b : Int) : Int := if isRat a b && (a != 0) then mkN b a else 0
def inD (a b : Int) : Int := if isRat a b && (a != 0) then mkD b a else 0
def inC (a b : Int) : Int := if isRat a b then (if a = 0 then 5 else mkC b a 2) else 1
def mrN (a b : Int) : Int := if qc a b = 0 then mkN a b else 0
def mrD (a b : Int) : Int := if qc a b = 0 then mkD a b else 0
def mrC (a b : Int) : Int := if qc a b = 0 then mkC a b 2 else qc a b
theorem isRat_bd {n d : Int} (h : isRat n d = true) : (-1000000000 ≤ n ∧ n ≤ 1000000000) ∧ 1 ≤ d ∧ d ≤ 1000000000 := by
  unfold isRat at h
  simp only [Bool.and_eq_true] at h
  exact ⟨inB_t h.1.1, inB_t h.1.2⟩
theorem mul_bd {x y : Int} {k l : Nat} (h : x.natAbs ≤ k) (h' : y.natAbs ≤ l) : (x * y).natAbs ≤ k * l := by
  rw [Int.natAbs_mul]
  exact Nat.mul_le_mul h h'

theorem areRatI (a b c d : Int) (w : World) : Calls Tryd.prog 62 #[.agg #[.int .i64 a, .int .i64 b], .agg #[.int .i64 c, .int .i64 d]] w fun e w' => e = .returned (.bool (ok2 a b c d)) ∧ Below w.heap.size w w' := by
  rcases h1 : isRat a b <;> rcases h2 : isRat c d
  all_goals
    go_enter Tryd.func62, Tryd.ntmps62
    go_wp2_with (go_at_call 52; refine (isRatI _ _ _).mono ?_; rintro e w1 ⟨rfl, hb1⟩; obtain ⟨hc1, hf1⟩ := bcell hb1; have hs1 := hb1.size; (try simp at hs1); (try have hl1 := Nat.lt_of_succ_le hs1); (try have hz10 : w.heap.size < w1.heap.size := (by have := hb1.size; (try simp at this); omega)); (try have hn10 : ¬ w.heap.size = w1.heap.size := (by omega)); (try have hm10 : ¬ w1.heap.size = w.heap.size := (by omega)); (try have hz11 : w.heap.size + 1 < w1.heap.size := (by have := hb1.size; (try simp at this); omega)); (try have hn11 : ¬ w.heap.size + 1 = w1.heap.size := (by omega)); (try have hm11 : ¬ w1.heap.size = w.heap.size + 1 := (by omega)); (try have c100 := hc1 (w.heap.size) 0 (by first | omega | (simp; done) | (simp; omega))); (try have f100 := hf1 (w.heap.size) 0 (by first | omega | (simp; done) | (simp; omega))); (try have c101 := hc1 (w.heap.size) 1 (by first | omega | (simp; done) | (simp; omega))); (try have f101 := hf1 (w.heap.size) 1 (by first | omega | (simp; done) | (simp; omega))); (try have c110 := hc1 (w.heap.size + 1) 0 (by first | omega | (simp; done) | (simp; omega))); (try have f110 := hf1 (w.heap.size + 1) 0 (by first | omega | (simp; done) | (simp; omega))); (try have c111 := hc1 (w.heap.size + 1) 1 (by first | omega | (simp; done) | (simp; omega))); (try have f111 := hf1 (w.heap.size + 1) 1 (by first | omega | (simp; done) | (simp; omega))))
    go_ret
    exact ⟨ret_b (by simp [ok2, h1, h2]), by (repeat' (first | (with_reducible exact Below.refl _ _) | (with_reducible assumption) | (with_reducible refine bStep ?_ (by with_reducible assumption)) | (with_reducible refine bAlloc ?_ _) | (with_reducible refine bDrew ?_) | (with_reducible refine bDrewN ?_ _) | (with_reducible refine Below.setCell ?_ ?_ _) | (with_reducible exact Nat.le_refl _) | (simp; done) | (simp; omega)))⟩
theorem cmpS (a b c d : Int) (w : World) (ha : -1000000000 ≤ a ∧ a ≤ 1000000000) (hb : -1000000000 ≤ b ∧ b ≤ 1000000000) (hc : -1000000000 ≤ c ∧ c ≤ 1000000000) (hd : -1000000000 ≤ d ∧ d ≤ 1000000000) :
    Calls Tryd.prog 64 #[.agg #[.int .i64 a, .int .i64 b], .agg #[.int .i64 c, .int .i64 d]] w fun e w' => e = .returned (.int .i64 (cmpP (a * d) (c * b))) ∧ Below w.heap.size w w' := by
  have m1 := mul_bd (x := a) (y := d) (k := 1000000000) (l := 1000000000) (by omega) (by omega)
  have m2 := mul_bd (x := c) (y := b) (k := 1000000000) (l := 1000000000) (by omega) (by omega)
  obtain ⟨p, hp⟩ : ∃ p, a * d = p := ⟨_, rfl⟩
  obtain ⟨q, hq⟩ : ∃ q, c * b = q := ⟨_, rfl⟩
  rw [hp] at m1
  rw [hq] at m2
  have p1 : -1000000000000000000 ≤ p ∧ p ≤ 1000000000000000000 := by omega
  have q1 : -1000000000000000000 ≤ q ∧ q ≤ 1000000000000000000 := by omega
  clear m1 m2
  rcases (by omega : p < q ∨ q < p ∨ p = q) with h | h | h
  · go_enter Tryd.func64, Tryd.ntmps64
    go_wp2
    go_region
    all_goals go_wp2
    all_goals go_ret
    all_goals exact ⟨ret_i (by simp only [hp, hq]; unfold cmpP; rw [if_pos h]), by (repeat' (first | (with_reducible exact Below.refl _ _) | (with_reducible assumption) | (with_reducible refine bStep ?_ (by with_reducible assumption)) | (with_reducible refine bAlloc ?_ _) | (with_reducible refine bDrew ?_) | (with_reducible refine bDrewN ?_ _) | (with_reducible refine Below.setCell ?_ ?_ _) | (with_reducible exact Nat.le_refl _) | (simp; done) | (simp; omega)))⟩
  · have h' : ¬ p < q := by omega
    go_enter Tryd.func64, Tryd.ntmps64
    go_wp2
    go_region
    all_goals go_wp2
    all_goals go_ret
    all_goals exact ⟨ret_i (by simp only [hp, hq]; unfold cmpP; rw [if_neg (by omega), if_pos h]), by (repeat' (first | (with_reducible exact Below.refl _ _) | (with_reducible assumption) | (with_reducible refine bStep ?_ (by with_reducible assumption)) | (with_reducible refine bAlloc ?_ _) | (with_reducible refine bDrew ?_) | (with_reducible refine bDrewN ?_ _) | (with_reducible refine Below.setCell ?_ ?_ _) | (with_reducible exact Nat.le_refl _) | (simp; done) | (simp; omega)))⟩
  · have h' : ¬ p < q := by omega
    have h'' : ¬ q < p := by omega
    clear h
    go_enter Tryd.func64, Tryd.ntmps64
    go_wp2
    go_region
    all_goals go_wp2
    all_goals go_ret
    all_goals exact ⟨ret_i (by simp only [hp, hq]; unfold cmpP; rw [if_neg (by omega), if_neg (by omega)]), by (repeat' (first | (with_reducible exact Below.refl _ _) | (with_reducible assumption) | (with_reducible refine bStep ?_ (by with_reducible assumption)) | (with_reducible refine bAlloc ?_ _) | (with_reducible refine bDrew ?_) | (with_reducible refine bDrewN ?_ _) | (with_reducible refine Below.setCell ?_ ?_ _) | (with_reducible exact Nat.le_refl _) | (simp; done) | (simp; omega)))⟩
theorem cmpI (a b c d : Int) (w : World) (ha : -1000000000 ≤ a ∧ a ≤ 1000000000) (hb : -1000000000 ≤ b ∧ b ≤ 1000000000) (hc : -1000000000 ≤ c ∧ c ≤ 1000000000) (hd : -1000000000 ≤ d ∧ d ≤ 1000000000) :
    Calls Tryd.prog 63 #[.agg #[.int .i64 a, .int .i64 b], .agg #[.int .i64 c, .int .i64 d]] w fun e w' => e = .returned (.int .i64 (cmpP (a * d) (c * b))) ∧ Below w.heap.size w w' := by
  have m1 := mul_bd (x := a) (y := d) (k := 1000000000) (l := 1000000000) (by omega) (by omega)
  have m2 := mul_bd (x := c) (y := b) (k := 1000000000) (l := 1000000000) (by omega) (by omega)
  obtain ⟨p, hp⟩ : ∃ p, a * d = p := ⟨_, rfl⟩
  obtain ⟨q, hq⟩ : ∃ q, c * b = q := ⟨_, rfl⟩
  rw [hp] at m1
  rw [hq] at m2
  have p1 : -1000000000000000000 ≤ p ∧ p ≤ 1000000000000000000 := by omega
  have q1 : -1000000000000000000 ≤ q ∧ q ≤ 1000000000000000000 := by omega
  clear m1 m2
  go_enter Tryd.func63, Tryd.ntmps63
  go_wp2_with (go_at_call 93; refine (signI _ _).mono ?_; rintro e w' ⟨rfl, rfl⟩)
  go_ret
  exact ⟨ret_i (by simp only [hp, hq]; exact sgn_sub p q), by (repeat' (first | (with_reducible exact Below.refl _ _) | (with_reducible assumption) | (with_reducible refine bStep ?_ (by with_reducible assumption)) | (with_reducible refine bAlloc ?_ _) | (with_reducible refine bDrew ?_) | (with_reducible refine bDrewN ?_ _) | (with_reducible refine Below.setCell ?_ ?_ _) | (with_reducible exact Nat.le_refl _) | (simp; done) | (simp; omega)))⟩
set_option maxHeartbeats 400000 in
theorem cmpRS (a b c d : Int) (w : World) : Calls Tryd.prog 21 #[.agg #[.int .i64 a, .int .i64 b], .agg #[.int .i64 c, .int .i64 d]] w fun e w' => e = .returned (.tuple #[.int .i64 (cmV a b c d), .int .i64 (cmC a b c d)]) ∧ Below w.heap.size w w' := by
  rcases h1 : isRat a b
  · have k : ok2 a b c d = false := by simp [ok2, h1]
    go_enter Tryd.func21, Tryd.ntmps21
    go_wp2_with (first | (go_at_call 60; refine (isRatS _ _ _).mono ?_; rintro e w1 ⟨rfl, hb1⟩; obtain ⟨hc1, hf1⟩ := bcell hb1; have hs1 := hb1.size; (try simp at hs1); (try have hl1 := Nat.lt_of_succ_le hs1); (try have hz10 : w.heap.size < w1.heap.size := (by have := hb1.size; (try simp at this); omega)); (try have hn10 : ¬ w.heap.size = w1.heap.size := (by omega)); (try have hm10 : ¬ w1.heap.size = w.heap.size := (by omega)); (try have hz11 : w.heap.size + 1 < w1.heap.size := (by have := hb1.size; (try simp at this); omega)); (try have hn11 : ¬ w.heap.size + 1 = w1.heap.size := (by omega)); (try have hm11 : ¬ w1.heap.size = w.heap.size + 1 := (by omega)); (try have c100 := hc1 (w.heap.size) 0 (by first | omega | (simp; done) | (simp; omega))); (try have f100 := hf1 (w.heap.size) 0 (by first | omega | (simp; done) | (simp; omega))); (try have c101 := hc1 (w.heap.size) 1 (by first | omega | (simp; done) | (simp; omega))); (try have f101 := hf1 (w.heap.size) 1 (by first | omega | (simp; done) | (simp; omega))); (try have c110 := hc1 (w.heap.size + 1) 0 (by first | omega | (simp; done) | (simp; omega))); (try have f110 := hf1 (w.heap.size + 1) 0 (by first | omega | (simp; done) | (simp; omega))); (try have c111 := hc1 (w.heap.size + 1) 1 (by first | omega | (simp; done) | (simp; omega))); (try have f111 := hf1 (w.heap.size + 1) 1 (by first | omega | (simp; done) | (simp; omega)))))
    go_ret2
    exact ⟨by simp [cmV, cmC, k], by (repeat' (first | (with_reducible exact Below.refl _ _) | (with_reducible assumption) | (with_reducible refine bStep ?_ (by with_reducible assumption)) | (with_reducible refine bAlloc ?_ _) | (with_reducible refine bDrew ?_) | (with_reducible refine bDrewN ?_ _) | (with_reducible refine Below.setCell ?_ ?_ _) | (with_reducible exact Nat.le_refl _) | (simp; done) | (simp; omega)))⟩
  rcases h2 : isRat c d
  · have k : ok2 a b c d = false := by simp [ok2, h2]
    go_enter Tryd.func21, Tryd.ntmps21
    go_wp2_with (first | (go_at_call 60; refine (isRatS _ _ _).mono ?_; rintro e w1 ⟨rfl, hb1⟩; obtain ⟨hc1, hf1⟩ := bcell hb1; have hs1 := hb1.size; (try simp at hs1); (try have hl1 := Nat.lt_of_succ_le hs1); (try have hz10 : w.heap.size < w1.heap.size := (by have := hb1.size; (try simp at this); omega)); (try have hn10 : ¬ w.heap.size = w1.heap.size := (by omega)); (try have hm10 : ¬ w1.heap.size = w.heap.size := (by omega)); (try have hz11 : w.heap.size + 1 < w1.heap.size := (by have := hb1.size; (try simp at this); omega)); (try have hn11 : ¬ w.heap.size + 1 = w1.heap.size := (by omega)); (try have hm11 : ¬ w1.heap.size = w.heap.size + 1 := (by omega)); (try have c100 := hc1 (w.heap.size) 0 (by first | omega | (simp; done) | (simp; omega))); (try have f100 := hf1 (w.heap.size) 0 (by first | omega | (simp; done) | (simp; omega))); (try have c101 := hc1 (w.heap.size) 1 (by first | omega | (simp; done) | (simp; omega))); (try have f101 := hf1 (w.heap.size) 1 (by first | omega | (simp; done) | (simp; omega))); (try have c110 := hc1 (w.heap.size + 1) 0 (by first | omega | (simp; done) | (simp; omega))); (try have f110 := hf1 (w.heap.size + 1) 0 (by first | omega | (simp; done) | (simp; omega))); (try have c111 := hc1 (w.heap.size + 1) 1 (by first | omega | (simp; done) | (simp; omega))); (try have f111 := hf1 (w.heap.size + 1) 1 (by first | omega | (simp; done) | (simp; omega)))))
    go_ret2
    exact ⟨by simp [cmV, cmC, k], by (repeat' (first | (with_reducible exact Below.refl _ _) | (with_reducible assumption) | (with_reducible refine bStep ?_ (by with_reducible assumption)) | (with_reducible refine bAlloc ?_ _) | (with_reducible refine bDrew ?_) | (with_reducible refine bDrewN ?_ _) | (with_reducible refine Below.setCell ?_ ?_ _) | (with_reducible exact Nat.le_refl _) | (simp; done) | (simp; omega)))⟩
  have k : ok2 a b c d = true := by simp [ok2, h1, h2]
  have B1 := isRat_bd h1
  have B2 := isRat_bd h2
  go_enter Tryd.func21, Tryd.ntmps21
  go_wp2_with (first | (go_at_call 60; refine (isRatS _ _ _).mono ?_; rintro e w1 ⟨rfl, hb1⟩; obtain ⟨hc1, hf1⟩ := bcell hb1; have hs1 := hb1.size; (try simp at hs1); (try have hl1 := Nat.lt_of_succ_le hs1); (try have hz10 : w.heap.size < w1.heap.size := (by have := hb1.size; (try simp at this); omega)); (try have hn10 : ¬ w.heap.size = w1.heap.size := (by omega)); (try have hm10 : ¬ w1.heap.size = w.heap.size := (by omega)); (try have hz11 : w.heap.size + 1 < w1.heap.size := (by have := hb1.size; (try simp at this); omega)); (try have hn11 : ¬ w.heap.size + 1 = w1.heap.size := (by omega)); (try have hm11 : ¬ w1.heap.size = w.heap.size + 1 := (by omega)); (try have c100 := hc1 (w.heap.size) 0 (by first | omega | (simp; done) | (simp; omega))); (try have f100 := hf1 (w.heap.size) 0 (by first | omega | (simp; done) | (simp; omega))); (try have c101 := hc1 (w.heap.size) 1 (by first | omega | (simp; done) | (simp; omega))); (try have f101 := hf1 (w.heap.size) 1 (by first | omega | (simp; done) | (simp; omega))); (try have c110 := hc1 (w.heap.size + 1) 0 (by first | omega | (simp; done) | (simp; omega))); (try have f110 := hf1 (w.heap.size + 1) 0 (by first | omega | (simp; done) | (simp; omega))); (try have c111 := hc1 (w.heap.size + 1) 1 (by first | omega | (simp; done) | (simp; omega))); (try have f111 := hf1 (w.heap.size + 1) 1 (by first | omega | (simp; done) | (simp; omega)))) | (go_at_call 64; refine (cmpS _ _ _ _ _ (by omega) (by omega) (by omega) (by omega)).mono ?_; rintro e w2 ⟨rfl, hb2⟩; obtain ⟨hc2, hf2⟩ := bcell hb2; have hs2 := hb2.size; (try simp at hs2); (try have hl2 := Nat.lt_of_succ_le hs2); (try have hz20 : w.heap.size < w2.heap.size := (by have := hb2.size; (try simp at this); omega)); (try have hn20 : ¬ w.heap.size = w2.heap.size := (by omega)); (try have hm20 : ¬ w2.heap.size = w.heap.size := (by omega)); (try have hz21 : w.heap.size + 1 < w2.heap.size := (by have := hb2.size; (try simp at this); omega)); (try have hn21 : ¬ w.heap.size + 1 = w2.heap.size := (by omega)); (try have hm21 : ¬ w2.heap.size = w.heap.size + 1 := (by omega)); (try have c200 := hc2 (w.heap.size) 0 (by first | omega | (simp; done) | (simp; omega))); (try have f200 := hf2 (w.heap.size) 0 (by first | omega | (simp; done) | (simp; omega))); (try have c201 := hc2 (w.heap.size) 1 (by first | omega | (simp; done) | (simp; omega))); (try have f201 := hf2 (w.heap.size) 1 (by first | omega | (simp; done) | (simp; omega))); (try have c210 := hc2 (w.heap.size + 1) 0 (by first | omega | (simp; done) | (simp; omega))); (try have f210 := hf2 (w.heap.size + 1) 0 (by first | omega | (simp; done) | (simp; omega))); (try have c211 := hc2 (w.heap.size + 1) 1 (by first | omega | (simp; done) | (simp; omega))); (try have f211 := hf2 (w.heap.size + 1) 1 (by first | omega | (simp; done) | (simp; omega)))))
  go_ret2
  exact ⟨by simp [cmV, cmC, k], by (repeat' (first | (with_reducible exact Below.refl _ _) | (with_reducible assumption) | (with_reducible refine bStep ?_ (by with_reducible assumption)) | (with_reducible refine bAlloc ?_ _) | (with_reducible refine bDrew ?_) | (with_reducible refine bDrewN ?_ _) | (with_reducible refine Below.setCell ?_ ?_ _) | (with_reducible exact Nat.le_refl _) | (simp; done) | (simp; omega)))⟩
set_option maxHeartbeats 400000 in
theorem cmpRI (a b c d : Int) (w : World) : Calls Tryd.prog 20 #[.agg #[.int .i64 a, .int .i64 b], .agg #[.int .i64 c, .int .i64 d]] w fun e w' => e = .returned (.tuple #[.int .i64 (cmV a b c d), .int .i64 (cmC a b c d)]) ∧ Below w.heap.size w w' := by
  rcases h1 : isRat a b
  · have k : ok2 a b c d = false := by simp [ok2, h1]
    go_enter Tryd.func20, Tryd.ntmps20
    go_wp2_with (first | (go_at_call 62; refine (areRatI _ _ _ _ _).mono ?_; rintro e w1 ⟨rfl, hb1⟩; obtain ⟨hc1, hf1⟩ := bcell hb1; have hs1 := hb1.size; (try simp at hs1); (try have hl1 := Nat.lt_of_succ_le hs1); (try have hz10 : w.heap.size < w1.heap.size := (by have := hb1.size; (try simp at this); omega)); (try have hn10 : ¬ w.heap.size = w1.heap.size := (by omega)); (try have hm10 : ¬ w1.heap.size = w.heap.size := (by omega)); (try have hz11 : w.heap.size + 1 < w1.heap.size := (by have := hb1.size; (try simp at this); omega)); (try have hn11 : ¬ w.heap.size + 1 = w1.heap.size := (by omega)); (try have hm11 : ¬ w1.heap.size = w.heap.size + 1 := (by omega)); (try have c100 := hc1 (w.heap.size) 0 (by first | omega | (simp; done) | (simp; omega))); (try have f100 := hf1 (w.heap.size) 0 (by first | omega | (simp; done) | (simp; omega))); (try have c101 := hc1 (w.heap.size) 1 (by first | omega | (simp; done) | (simp; omega))); (try have f101 := hf1 (w.heap.size) 1 (by first | omega | (simp; done) | (simp; omega))); (try have c110 := hc1 (w.heap.size + 1) 0 (by first | omega | (simp; done) | (simp; omega))); (try have f110 := hf1 (w.heap.size + 1) 0 (by first | omega | (simp; done) | (simp; omega))); (try have c111 := hc1 (w.heap.size + 1) 1 (by first | omega | (simp; done) | (simp; omega))); (try have f111 := hf1 (w.heap.size + 1) 1 (by first | omega | (simp; done) | (simp; omega)))))
    go_ret2
    exact ⟨by simp [cmV, cmC, k], by (repeat' (first | (with_reducible exact Below.refl _ _) | (with_reducible assumption) | (with_reducible refine bStep ?_ (by with_reducible assumption)) | (with_reducible refine bAlloc ?_ _) | (with_reducible refine bDrew ?_) | (with_reducible refine bDrewN ?_ _) | (with_reducible refine Below.setCell ?_ ?_ _) | (with_reducible exact Nat.le_refl _) | (simp; done) | (simp; omega)))⟩
  rcases h2 : isRat c d
  · have k : ok2 a b c d = false := by simp [ok2, h2]
    go_enter Tryd.func20, Tryd.ntmps20
    go_wp2_with (first | (go_at_call 62; refine (areRatI _ _ _ _ _).mono ?_; rintro e w1 ⟨rfl, hb1⟩; obtain ⟨hc1, hf1⟩ := bcell hb1; have hs1 := hb1.size; (try simp at hs1); (try have hl1 := Nat.lt_of_succ_le hs1); (try have hz10 : w.heap.size < w1.heap.size := (by have := hb1.size; (try simp at this); omega)); (try have hn10 : ¬ w.heap.size = w1.heap.size := (by omega)); (try have hm10 : ¬ w1.heap.size = w.heap.size := (by omega)); (try have hz11 : w.heap.size + 1 < w1.heap.size := (by have := hb1.size; (try simp at this); omega)); (try have hn11 : ¬ w.heap.size + 1 = w1.heap.size := (by omega)); (try have hm11 : ¬ w1.heap.size = w.heap.size + 1 := (by omega)); (try have c100 := hc1 (w.heap.size) 0 (by first | omega | (simp; done) | (simp; omega))); (try have f100 := hf1 (w.heap.size) 0 (by first | omega | (simp; done) | (simp; omega))); (try have c101 := hc1 (w.heap.size) 1 (by first | omega | (simp; done) | (simp; omega))); (try have f101 := hf1 (w.heap.size) 1 (by first | omega | (simp; done) | (simp; omega))); (try have c110 := hc1 (w.heap.size + 1) 0 (by first | omega | (simp; done) | (simp; omega))); (try have f110 := hf1 (w.heap.size + 1) 0 (by first | omega | (simp; done) | (simp; omega))); (try have c111 := hc1 (w.heap.size + 1) 1 (by first | omega | (simp; done) | (simp; omega))); (try have f111 := hf1 (w.heap.size + 1) 1 (by first | omega | (simp; done) | (simp; omega)))))
    go_ret2
    exact ⟨by simp [cmV, cmC, k], by (repeat' (first | (with_reducible exact Below.refl _ _) | (with_reducible assumption) | (with_reducible refine bStep ?_ (by with_reducible assumption)) | (with_reducible refine bAlloc ?_ _) | (with_reducible refine bDrew ?_) | (with_reducible refine bDrewN ?_ _) | (with_reducible refine Below.setCell ?_ ?_ _) | (with_reducible exact Nat.le_refl _) | (simp; done) | (simp; omega)))⟩
  have k : ok2 a b c d = true := by simp [ok2, h1, h2]
  have B1 := isRat_bd h1
  have B2 := isRat_bd h2
  go_enter Tryd.func20, Tryd.ntmps20
  go_wp2_with (first | (go_at_call 62; refine (areRatI _ _ _ _ _).mono ?_; rintro e w1 ⟨rfl, hb1⟩; obtain ⟨hc1, hf1⟩ := bcell hb1; have hs1 := hb1.size; (try simp at hs1); (try have hl1 := Nat.lt_of_succ_le hs1); (try have hz10 : w.heap.size < w1.heap.size := (by have := hb1.size; (try simp at this); omega)); (try have hn10 : ¬ w.heap.size = w1.heap.size := (by omega)); (try have hm10 : ¬ w1.heap.size = w.heap.size := (by omega)); (try have hz11 : w.heap.size + 1 < w1.heap.size := (by have := hb1.size; (try simp at this); omega)); (try have hn11 : ¬ w.heap.size + 1 = w1.heap.size := (by omega)); (try have hm11 : ¬ w1.heap.size = w.heap.size + 1 := (by omega)); (try have c100 := hc1 (w.heap.size) 0 (by first | omega | (simp; done) | (simp; omega))); (try have f100 := hf1 (w.heap.size) 0 (by first | omega | (simp; done) | (simp; omega))); (try have c101 := hc1 (w.heap.size) 1 (by first | omega | (simp; done) | (simp; omega))); (try have f101 := hf1 (w.heap.size) 1 (by first | omega | (simp; done) | (simp; omega))); (try have c110 := hc1 (w.heap.size + 1) 0 (by first | omega | (simp; done) | (simp; omega))); (try have f110 := hf1 (w.heap.size + 1) 0 (by first | omega | (simp; done) | (simp; omega))); (try have c111 := hc1 (w.heap.size + 1) 1 (by first | omega | (simp; done) | (simp; omega))); (try have f111 := hf1 (w.heap.size + 1) 1 (by first | omega | (simp; done) | (simp; omega)))) | (go_at_call 63; refine (cmpI _ _ _ _ _ (by omega) (by omega) (by omega) (by omega)).mono ?_; rintro e w2 ⟨rfl, hb2⟩; obtain ⟨hc2, hf2⟩ := bcell hb2; have hs2 := hb2.size; (try simp at hs2); (try have hl2 := Nat.lt_of_succ_le hs2); (try have hz20 : w.heap.size < w2.heap.size := (by have := hb2.size; (try simp at this); omega)); (try have hn20 : ¬ w.heap.size = w2.heap.size := (by omega)); (try have hm20 : ¬ w2.heap.size = w.heap.size := (by omega)); (try have hz21 : w.heap.size + 1 < w2.heap.size := (by have := hb2.size; (try simp at this); omega)); (try have hn21 : ¬ w.heap.size + 1 = w2.heap.size := (by omega)); (try have hm21 : ¬ w2.heap.size = w.heap.size + 1 := (by omega)); (try have c200 := hc2 (w.heap.size) 0 (by first | omega | (simp; done) | (simp; omega))); (try have f200 := hf2 (w.heap.size) 0 (by first | omega | (simp; done) | (simp; omega))); (try have c201 := hc2 (w.heap.size) 1 (by first | omega | (simp; done) | (simp; omega))); (try have f201 := hf2 (w.heap.size) 1 (by first | omega | (simp; done) | (simp; omega))); (try have c210 := hc2 (w.heap.size + 1) 0 (by first | omega | (simp; done) | (simp; omega))); (try have f210 := hf2 (w.heap.size + 1) 0 (by first | omega | (simp; done) | (simp; omega))); (try have c211 := hc2 (w.heap.size + 1) 1 (by first | omega | (simp; done) | (simp; omega))); (try have f211 := hf2 (w.heap.size + 1) 1 (by first | omega | (simp; done) | (simp; omega)))))
  go_ret2
  exact ⟨by simp [cmV, cmC, k], by (repeat' (first | (with_reducible exact Below.refl _ _) | (with_reducible assumption) | (with_reducible refine bStep ?_ (by with_reducible assumption)) | (with_reducible refine bAlloc ?_ _) | (with_reducible refine bDrew ?_) | (with_reducible refine bDrewN ?_ _) | (with_reducible refine Below.setCell ?_ ?_ _) | (with_reducible exact Nat.le_refl _) | (simp; done) | (simp; omega)))⟩
set_option maxHeartbeats 400000 in
theorem mrS (a b : Int) (w : World) : Calls Tryd.prog 86 #[.int .i64 a, .int .i64 b] w fun e w' => e = .returned (.tuple #[.agg #[.int .i64 (mrN a b), .int .i64 (mrD a b)], .int .i64 (mrC a b)]) ∧ Below w.heap.size w w' := by
  rcases ha : isV a
  · have k : qc a b = 2 := by simp [qc, ha]
    go_enter Tryd.func86, Tryd.ntmps86
    go_wp2_with (first | (go_at_call 72; refine (isS _ _).mono ?_; rintro e w' ⟨rfl, rfl⟩))
    first | go_ret2 | (refine bodyPost_ret (by simp [results, Tryd.results86, go_sem, *]; try rfl) rfl ?_)
    exact ⟨by simp [mrN, mrD, mrC, k], by (repeat' (first | (with_reducible exact Below.refl _ _) | (with_reducible assumption) | (with_reducible refine bStep ?_ (by with_reducible assumption)) | (with_reducible refine bAlloc ?_ _) | (with_reducible refine bDrew ?_) | (with_reducible refine bDrewN ?_ _) | (with_reducible refine Below.setCell ?_ ?_ _) | (with_reducible exact Nat.le_refl _) | (simp; done) | (simp; omega)))⟩
  rcases hb : isV b
  · have k : qc a b = 2 := by simp [qc, hb]
    go_enter Tryd.func86, Tryd.ntmps86
    go_wp2_with (first | (go_at_call 72; refine (isS _ _).mono ?_; rintro e w' ⟨rfl, rfl⟩))
    first | go_ret2 | (refine bodyPost_ret (by simp [results, Tryd.results86, go_sem, *]; try rfl) rfl ?_)
    exact ⟨by simp [mrN, mrD, mrC, k], by (repeat' (first | (with_reducible exact Below.refl _ _) | (with_reducible assumption) | (with_reducible refine bStep ?_ (by with_reducible assumption)) | (with_reducible refine bAlloc ?_ _) | (with_reducible refine bDrew ?_) | (with_reducible refine bDrewN ?_ _) | (with_reducible refine Below.setCell ?_ ?_ _) | (with_reducible exact Nat.le_refl _) | (simp; done) | (simp; omega)))⟩
  by_cases hz : b = 0
  · subst hz
    have k : qc a 0 = 5 := by simp [qc, ha, hb]
    go_enter Tryd.func86, Tryd.ntmps86
    go_wp2_with (first | (go_at_call 72; refine (isS _ _).mono ?_; rintro e w' ⟨rfl, rfl⟩))
    first | go_ret2 | (refine bodyPost_ret (by simp [results, Tryd.results86, go_sem, *]; try rfl) rfl ?_)
    exact ⟨by simp [mrN, mrD, mrC, k], by (repeat' (first | (with_reducible exact Below.refl _ _) | (with_reducible assumption) | (with_reducible refine bStep ?_ (by with_reducible assumption)) | (with_reducible refine bAlloc ?_ _) | (with_reducible refine bDrew ?_) | (with_reducible refine bDrewN ?_ _) | (with_reducible refine Below.setCell ?_ ?_ _) | (with_reducible exact Nat.le_refl _) | (simp; done) | (simp; omega)))⟩
  have k : qc a b = 0 := by simp [qc, ha, hb, hz]
  have n1 : (b == 0) = false := by simpa using hz
  have B1 := isV_t ha
  have B2 := isV_t hb
  go_enter Tryd.func86, Tryd.ntmps86
  go_wp2_with (first | (go_at_call 72; refine (isS _ _).mono ?_; rintro e w' ⟨rfl, rfl⟩) | (go_at_call 116; refine (mkS _ _ _ hz (by omega) (by omega) (by omega) (by omega)).mono ?_; rintro e w2 ⟨rfl, hb2⟩; obtain ⟨hc2, hf2⟩ := bcell hb2; have hs2 := hb2.size; (try simp at hs2); (try have hl2 := Nat.lt_of_succ_le hs2); (try have hz20 : w.heap.size < w2.heap.size := (by have := hb2.size; (try simp at this); omega)); (try have hn20 : ¬ w.heap.size = w2.heap.size := (by omega)); (try have hm20 : ¬ w2.heap.size = w.heap.size := (by omega)); (try have c200 := hc2 (w.heap.size) 0 (by first | omega | (simp; done) | (simp; omega))); (try have f200 := hf2 (w.heap.size) 0 (by first | omega | (simp; done) | (simp; omega))); (try have c201 := hc2 (w.heap.size) 1 (by first | omega | (simp; done) | (simp; omega))); (try have f201 := hf2 (w.heap.size) 1 (by first | omega | (simp; done) | (simp; omega)))))
  first | go_ret2 | (refine bodyPost_ret (by simp [results, Tryd.results86, go_sem, *]; try rfl) rfl ?_)
  exact ⟨by simp [mrN, mrD, mrC, k], by (repeat' (first | (with_reducible exact Below.refl _ _) | (with_reducible assumption) | (with_reducible refine bStep ?_ (by with_reducible assumption)) | (with_reducible refine bAlloc ?_ _) | (with_reducible refine bDrew ?_) | (with_reducible refine bDrewN ?_ _) | (with_reducible refine Below.setCell ?_ ?_ _) | (with_reducible exact Nat.le_refl _) | (simp; done) | (simp; omega)))⟩
end Go.Proofs.YtgnpbgknmapejaaDoor
