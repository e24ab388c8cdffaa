/- Contracts of the operations on directions. -/
import Derived.Test.YtincelkcbdjcjaaDir
import Derived.Test.YtincelkcbdjcjaaRat
namespace Go.Proofs.Ytincelkcbdjcjaa
open Go.RowKit
set_option linter.unusedVariables false

theorem isDir_bd {c s h : Int} (k : isDir c s h = true) : (1 ≤ h ∧ h ≤ 1000) ∧ (1 ≤ c ∧ c ≤ 1000) ∧ -1000 ≤ s ∧ s ≤ 1000 := by
  unfold isDir at k
  simp only [Bool.and_eq_true] at k
  exact ⟨inB_t k.1.1.1.1.1, inB_t k.1.1.1.1.2, inB_t k.1.1.1.2⟩
theorem mul_bd' {x y : Int} {k l : Nat} (h : x.natAbs ≤ k) (h' : y.natAbs ≤ l) : (x * y).natAbs ≤ k * l := by
  rw [Int.natAbs_mul]
  exact Nat.mul_le_mul h h'
def mdC (c s h : Int) : Int := if isDir c s h then c else 0
def mdS (c s h : Int) : Int := if isDir c s h then -s else 0
def mdH (c s h : Int) : Int := if isDir c s h then h else 0
def mdE (c s h : Int) : Int := if isDir c s h then 0 else 1
def cdV (a b c d e f : Int) : Int := if isDir a b c && isDir d e f then cmpP (a * f) (d * c) else 0
def cdE (a b c d e f : Int) : Int := if isDir a b c && isDir d e f then 0 else 1
theorem mirS (a b c : Int) (w : World) : Calls Try.prog 16 #[.agg #[.int .i64 a, .int .i64 b, .int .i64 c]] w fun e w' => e = .returned (.tuple #[.agg #[.int .i64 (mdC a b c), .int .i64 (mdS a b c), .int .i64 (mdH a b c)], .int .i64 (mdE a b c)]) ∧ Below w.heap.size w w' := by
  rcases h1 : isDir a b c
  · go_enter Try.func16, Try.ntmps16
    go_wp2_with (first | (go_at_call 21; refine (isDirS _ _ _ _).mono ?_; rintro e w1 ⟨rfl, hb1⟩; obtain ⟨hc1, hf1⟩ := bcell hb1; have hs1 := hb1.size; (try simp at hs1); (try have hl1 := Nat.lt_of_succ_le hs1); (try have hz10 : w.heap.size < w1.heap.size := (by have := hb1.size; (try simp at this); omega)); (try have hn10 : ¬ w.heap.size = w1.heap.size := (by omega)); (try have hm10 : ¬ w1.heap.size = w.heap.size := (by omega)); (try have hz11 : w.heap.size + 1 < w1.heap.size := (by have := hb1.size; (try simp at this); omega)); (try have hn11 : ¬ w.heap.size + 1 = w1.heap.size := (by omega)); (try have hm11 : ¬ w1.heap.size = w.heap.size + 1 := (by omega)); (try have c100 := hc1 (w.heap.size) 0 (by first | omega | (simp; done) | (simp; omega))); (try have f100 := hf1 (w.heap.size) 0 (by first | omega | (simp; done) | (simp; omega))); (try have c101 := hc1 (w.heap.size) 1 (by first | omega | (simp; done) | (simp; omega))); (try have f101 := hf1 (w.heap.size) 1 (by first | omega | (simp; done) | (simp; omega))); (try have c102 := hc1 (w.heap.size) 2 (by first | omega | (simp; done) | (simp; omega))); (try have f102 := hf1 (w.heap.size) 2 (by first | omega | (simp; done) | (simp; omega))); (try have c110 := hc1 (w.heap.size + 1) 0 (by first | omega | (simp; done) | (simp; omega))); (try have f110 := hf1 (w.heap.size + 1) 0 (by first | omega | (simp; done) | (simp; omega))); (try have c111 := hc1 (w.heap.size + 1) 1 (by first | omega | (simp; done) | (simp; omega))); (try have f111 := hf1 (w.heap.size + 1) 1 (by first | omega | (simp; done) | (simp; omega))); (try have c112 := hc1 (w.heap.size + 1) 2 (by first | omega | (simp; done) | (simp; omega))); (try have f112 := hf1 (w.heap.size + 1) 2 (by first | omega | (simp; done) | (simp; omega)))))
    first | go_ret2 | (refine bodyPost_ret (by simp [results, Try.results16, go_sem, *]; try rfl) rfl ?_)
    exact ⟨by simp [mdC, mdS, mdH, mdE, h1], by (repeat' (first | (with_reducible exact Below.refl _ _) | (with_reducible assumption) | (with_reducible refine bStep ?_ (by with_reducible assumption)) | (with_reducible refine bAlloc ?_ _) | (with_reducible refine bDrew ?_) | (with_reducible refine bDrewN ?_ _) | (with_reducible refine Below.setCell ?_ ?_ _) | (with_reducible exact Nat.le_refl _) | (simp; done) | (simp; omega)))⟩
  · have B := isDir_bd h1
    go_enter Try.func16, Try.ntmps16
    go_wp2_with (first | (go_at_call 21; refine (isDirS _ _ _ _).mono ?_; rintro e w1 ⟨rfl, hb1⟩; obtain ⟨hc1, hf1⟩ := bcell hb1; have hs1 := hb1.size; (try simp at hs1); (try have hl1 := Nat.lt_of_succ_le hs1); (try have hz10 : w.heap.size < w1.heap.size := (by have := hb1.size; (try simp at this); omega)); (try have hn10 : ¬ w.heap.size = w1.heap.size := (by omega)); (try have hm10 : ¬ w1.heap.size = w.heap.size := (by omega)); (try have hz11 : w.heap.size + 1 < w1.heap.size := (by have := hb1.size; (try simp at this); omega)); (try have hn11 : ¬ w.heap.size + 1 = w1.heap.size := (by omega)); (try have hm11 : ¬ w1.heap.size = w.heap.size + 1 := (by omega)); (try have c100 := hc1 (w.heap.size) 0 (by first | omega | (simp; done) | (simp; omega))); (try have f100 := hf1 (w.heap.size) 0 (by first | omega | (simp; done) | (simp; omega))); (try have c101 := hc1 (w.heap.size) 1 (by first | omega | (simp; done) | (simp; omega))); (try have f101 := hf1 (w.heap.size) 1 (by first | omega | (simp; done) | (simp; omega))); (try have c102 := hc1 (w.heap.size) 2 (by first | omega | (simp; done) | (simp; omega))); (try have f102 := hf1 (w.heap.size) 2 (by first | omega | (simp; done) | (simp; omega))); (try have c110 := hc1 (w.heap.size + 1) 0 (by first | omega | (simp; done) | (simp; omega))); (try have f110 := hf1 (w.heap.size + 1) 0 (by first | omega | (simp; done) | (simp; omega))); (try have c111 := hc1 (w.heap.size + 1) 1 (by first | omega | (simp; done) | (simp; omega))); (try have f111 := hf1 (w.heap.size + 1) 1 (by first | omega | (simp; done) | (simp; omega))); (try have c112 := hc1 (w.heap.size + 1) 2 (by first | omega | (simp; done) | (simp; omega))); (try have f112 := hf1 (w.heap.size + 1) 2 (by first | omega | (simp; done) | (simp; omega)))))
    first | go_ret2 | (refine bodyPost_ret (by simp [results, Try.results16, go_sem, *]; try rfl) rfl ?_)
    exact ⟨by simp [mdC, mdS, mdH, mdE, h1], by (repeat' (first | (with_reducible exact Below.refl _ _) | (with_reducible assumption) | (with_reducible refine bStep ?_ (by with_reducible assumption)) | (with_reducible refine bAlloc ?_ _) | (with_reducible refine bDrew ?_) | (with_reducible refine bDrewN ?_ _) | (with_reducible refine Below.setCell ?_ ?_ _) | (with_reducible exact Nat.le_refl _) | (simp; done) | (simp; omega)))⟩
theorem mirI (a b c : Int) (w : World) : Calls Try.prog 15 #[.agg #[.int .i64 a, .int .i64 b, .int .i64 c]] w fun e w' => e = .returned (.tuple #[.agg #[.int .i64 (mdC a b c), .int .i64 (mdS a b c), .int .i64 (mdH a b c)], .int .i64 (mdE a b c)]) ∧ Below w.heap.size w w' := by
  rcases h1 : isDir a b c
  · go_enter Try.func15, Try.ntmps15
    go_wp2_with (first | (go_at_call 20; refine (isDirI _ _ _ _).mono ?_; rintro e w1 ⟨rfl, hb1⟩; obtain ⟨hc1, hf1⟩ := bcell hb1; have hs1 := hb1.size; (try simp at hs1); (try have hl1 := Nat.lt_of_succ_le hs1); (try have hz10 : w.heap.size < w1.heap.size := (by have := hb1.size; (try simp at this); omega)); (try have hn10 : ¬ w.heap.size = w1.heap.size := (by omega)); (try have hm10 : ¬ w1.heap.size = w.heap.size := (by omega)); (try have hz11 : w.heap.size + 1 < w1.heap.size := (by have := hb1.size; (try simp at this); omega)); (try have hn11 : ¬ w.heap.size + 1 = w1.heap.size := (by omega)); (try have hm11 : ¬ w1.heap.size = w.heap.size + 1 := (by omega)); (try have c100 := hc1 (w.heap.size) 0 (by first | omega | (simp; done) | (simp; omega))); (try have f100 := hf1 (w.heap.size) 0 (by first | omega | (simp; done) | (simp; omega))); (try have c101 := hc1 (w.heap.size) 1 (by first | omega | (simp; done) | (simp; omega))); (try have f101 := hf1 (w.heap.size) 1 (by first | omega | (simp; done) | (simp; omega))); (try have c102 := hc1 (w.heap.size) 2 (by first | omega | (simp; done) | (simp; omega))); (try have f102 := hf1 (w.heap.size) 2 (by first | omega | (simp; done) | (simp; omega))); (try have c110 := hc1 (w.heap.size + 1) 0 (by first | omega | (simp; done) | (simp; omega))); (try have f110 := hf1 (w.heap.size + 1) 0 (by first | omega | (simp; done) | (simp; omega))); (try have c111 := hc1 (w.heap.size + 1) 1 (by first | omega | (simp; done) | (simp; omega))); (try have f111 := hf1 (w.heap.size + 1) 1 (by first | omega | (simp; done) | (simp; omega))); (try have c112 := hc1 (w.heap.size + 1) 2 (by first | omega | (simp; done) | (simp; omega))); (try have f112 := hf1 (w.heap.size + 1) 2 (by first | omega | (simp; done) | (simp; omega)))))
    first | go_ret2 | (refine bodyPost_ret (by simp [results, Try.results15, go_sem, *]; try rfl) rfl ?_)
    exact ⟨by simp [mdC, mdS, mdH, mdE, h1], by (repeat' (first | (with_reducible exact Below.refl _ _) | (with_reducible assumption) | (with_reducible refine bStep ?_ (by with_reducible assumption)) | (with_reducible refine bAlloc ?_ _) | (with_reducible refine bDrew ?_) | (with_reducible refine bDrewN ?_ _) | (with_reducible refine Below.setCell ?_ ?_ _) | (with_reducible exact Nat.le_refl _) | (simp; done) | (simp; omega)))⟩
  · have B := isDir_bd h1
    go_enter Try.func15, Try.ntmps15
    go_wp2_with (first | (go_at_call 20; refine (isDirI _ _ _ _).mono ?_; rintro e w1 ⟨rfl, hb1⟩; obtain ⟨hc1, hf1⟩ := bcell hb1; have hs1 := hb1.size; (try simp at hs1); (try have hl1 := Nat.lt_of_succ_le hs1); (try have hz10 : w.heap.size < w1.heap.size := (by have := hb1.size; (try simp at this); omega)); (try have hn10 : ¬ w.heap.size = w1.heap.size := (by omega)); (try have hm10 : ¬ w1.heap.size = w.heap.size := (by omega)); (try have hz11 : w.heap.size + 1 < w1.heap.size := (by have := hb1.size; (try simp at this); omega)); (try have hn11 : ¬ w.heap.size + 1 = w1.heap.size := (by omega)); (try have hm11 : ¬ w1.heap.size = w.heap.size + 1 := (by omega)); (try have c100 := hc1 (w.heap.size) 0 (by first | omega | (simp; done) | (simp; omega))); (try have f100 := hf1 (w.heap.size) 0 (by first | omega | (simp; done) | (simp; omega))); (try have c101 := hc1 (w.heap.size) 1 (by first | omega | (simp; done) | (simp; omega))); (try have f101 := hf1 (w.heap.size) 1 (by first | omega | (simp; done) | (simp; omega))); (try have c102 := hc1 (w.heap.size) 2 (by first | omega | (simp; done) | (simp; omega))); (try have f102 := hf1 (w.heap.size) 2 (by first | omega | (simp; done) | (simp; omega))); (try have c110 := hc1 (w.heap.size + 1) 0 (by first | omega | (simp; done) | (simp; omega))); (try have f110 := hf1 (w.heap.size + 1) 0 (by first | omega | (simp; done) | (simp; omega))); (try have c111 := hc1 (w.heap.size + 1) 1 (by first | omega | (simp; done) | (simp; omega))); (try have f111 := hf1 (w.heap.size + 1) 1 (by first | omega | (simp; done) | (simp; omega))); (try have c112 := hc1 (w.heap.size + 1) 2 (by first | omega | (simp; done) | (simp; omega))); (try have f112 := hf1 (w.heap.size + 1) 2 (by first | omega | (simp; done) | (simp; omega)))))
    first | go_ret2 | (refine bodyPost_ret (by simp [results, Try.results15, go_sem, *]; try rfl) rfl ?_)
    exact ⟨by simp [mdC, mdS, mdH, mdE, h1], by (repeat' (first | (with_reducible exact Below.refl _ _) | (with_reducible assumption) | (with_reducible refine bStep ?_ (by with_reducible assumption)) | (with_reducible refine bAlloc ?_ _) | (with_reducible refine bDrew ?_) | (with_reducible refine bDrewN ?_ _) | (with_reducible refine Below.setCell ?_ ?_ _) | (with_reducible exact Nat.le_refl _) | (simp; done) | (simp; omega)))⟩
theorem cmpDS (a b c d e f : Int) (w : World) (ha : -1000 ≤ a ∧ a ≤ 1000) (hc : -1000 ≤ c ∧ c ≤ 1000) (hd : -1000 ≤ d ∧ d ≤ 1000) (hf : -1000 ≤ f ∧ f ≤ 1000) :
    Calls Try.prog 66 #[.agg #[.int .i64 a, .int .i64 b, .int .i64 c], .agg #[.int .i64 d, .int .i64 e, .int .i64 f]] w fun o w' => o = .returned (.int .i64 (cmpP (a * f) (d * c))) ∧ Below w.heap.size w w' := by
  have m1 := mul_bd' (x := a) (y := f) (k := 1000) (l := 1000) (by omega) (by omega)
  have m2 := mul_bd' (x := d) (y := c) (k := 1000) (l := 1000) (by omega) (by omega)
  obtain ⟨p, hp⟩ : ∃ p, a * f = p := ⟨_, rfl⟩
  obtain ⟨q, hq⟩ : ∃ q, d * c = q := ⟨_, rfl⟩
  rw [hp] at m1
  rw [hq] at m2
  have p1 : -1000000 ≤ p ∧ p ≤ 1000000 := by omega
  have q1 : -1000000 ≤ q ∧ q ≤ 1000000 := by omega
  clear m1 m2
  rcases (by omega : p < q ∨ q < p ∨ p = q) with h | h | h
  · have h' : ¬ q < p := by omega
    go_enter Try.func66, Try.ntmps66
    go_wp2
    go_region
    all_goals go_wp2
    all_goals go_ret
    all_goals exact ⟨ret_i (by simp only [hp, hq]; unfold cmpP; rw [if_pos h]), by (repeat' (first | (with_reducible exact Below.refl _ _) | (with_reducible assumption) | (with_reducible refine bStep ?_ (by with_reducible assumption)) | (with_reducible refine bAlloc ?_ _) | (with_reducible refine bDrew ?_) | (with_reducible refine bDrewN ?_ _) | (with_reducible refine Below.setCell ?_ ?_ _) | (with_reducible exact Nat.le_refl _) | (simp; done) | (simp; omega)))⟩
  · go_enter Try.func66, Try.ntmps66
    go_wp2
    go_region
    all_goals go_wp2
    all_goals go_ret
    all_goals exact ⟨ret_i (by simp only [hp, hq]; unfold cmpP; rw [if_neg (by omega), if_pos h]), by (repeat' (first | (with_reducible exact Below.refl _ _) | (with_reducible assumption) | (with_reducible refine bStep ?_ (by with_reducible assumption)) | (with_reducible refine bAlloc ?_ _) | (with_reducible refine bDrew ?_) | (with_reducible refine bDrewN ?_ _) | (with_reducible refine Below.setCell ?_ ?_ _) | (with_reducible exact Nat.le_refl _) | (simp; done) | (simp; omega)))⟩
  · have h' : ¬ p < q := by omega
    have h'' : ¬ q < p := by omega
    clear h
    go_enter Try.func66, Try.ntmps66
    go_wp2
    go_region
    all_goals go_wp2
    all_goals go_ret
    all_goals exact ⟨ret_i (by simp only [hp, hq]; unfold cmpP; rw [if_neg (by omega), if_neg (by omega)]), by (repeat' (first | (with_reducible exact Below.refl _ _) | (with_reducible assumption) | (with_reducible refine bStep ?_ (by with_reducible assumption)) | (with_reducible refine bAlloc ?_ _) | (with_reducible refine bDrew ?_) | (with_reducible refine bDrewN ?_ _) | (with_reducible refine Below.setCell ?_ ?_ _) | (with_reducible exact Nat.le_refl _) | (simp; done) | (simp; omega)))⟩
theorem cmpDI (a b c d e f : Int) (w : World) (ha : -1000 ≤ a ∧ a ≤ 1000) (hc : -1000 ≤ c ∧ c ≤ 1000) (hd : -1000 ≤ d ∧ d ≤ 1000) (hf : -1000 ≤ f ∧ f ≤ 1000) :
    Calls Try.prog 65 #[.agg #[.int .i64 a, .int .i64 b, .int .i64 c], .agg #[.int .i64 d, .int .i64 e, .int .i64 f]] w fun o w' => o = .returned (.int .i64 (cmpP (a * f) (d * c))) ∧ Below w.heap.size w w' := by
  have m1 := mul_bd' (x := a) (y := f) (k := 1000) (l := 1000) (by omega) (by omega)
  have m2 := mul_bd' (x := d) (y := c) (k := 1000) (l := 1000) (by omega) (by omega)
  obtain ⟨p, hp⟩ : ∃ p, a * f = p := ⟨_, rfl⟩
  obtain ⟨q, hq⟩ : ∃ q, d * c = q := ⟨_, rfl⟩
  rw [hp] at m1
  rw [hq] at m2
  have p1 : -1000000 ≤ p ∧ p ≤ 1000000 := by omega
  have q1 : -1000000 ≤ q ∧ q ≤ 1000000 := by omega
  clear m1 m2
  go_enter Try.func65, Try.ntmps65
  go_wp2_with (go_at_call 105; refine (signI _ _).mono ?_; rintro e w' ⟨rfl, rfl⟩)
  go_ret
  exact ⟨ret_i (by simp only [hp, hq]; exact sgn_sub p q), by (repeat' (first | (with_reducible exact Below.refl _ _) | (with_reducible assumption) | (with_reducible refine bStep ?_ (by with_reducible assumption)) | (with_reducible refine bAlloc ?_ _) | (with_reducible refine bDrew ?_) | (with_reducible refine bDrewN ?_ _) | (with_reducible refine Below.setCell ?_ ?_ _) | (with_reducible exact Nat.le_refl _) | (simp; done) | (simp; omega)))⟩
set_option maxHeartbeats 400000 in
theorem cmpDSv (a b c d e f : Int) (w : World) : Calls Try.prog 19 #[.agg #[.int .i64 a, .int .i64 b, .int .i64 c], .agg #[.int .i64 d, .int .i64 e, .int .i64 f]] w fun o w' => o = .returned (.tuple #[.int .i64 (cdV a b c d e f), .int .i64 (cdE a b c d e f)]) ∧ Below w.heap.size w w' := by
  rcases h1 : isDir a b c
  · go_enter Try.func19, Try.ntmps19
    go_wp2_with (first | (go_at_call 21; refine (isDirS _ _ _ _).mono ?_; rintro e w1 ⟨rfl, hb1⟩; obtain ⟨hc1, hf1⟩ := bcell hb1; have hs1 := hb1.size; (try simp at hs1); (try have hl1 := Nat.lt_of_succ_le hs1); (try have hz10 : w.heap.size < w1.heap.size := (by have := hb1.size; (try simp at this); omega)); (try have hn10 : ¬ w.heap.size = w1.heap.size := (by omega)); (try have hm10 : ¬ w1.heap.size = w.heap.size := (by omega)); (try have hz11 : w.heap.size + 1 < w1.heap.size := (by have := hb1.size; (try simp at this); omega)); (try have hn11 : ¬ w.heap.size + 1 = w1.heap.size := (by omega)); (try have hm11 : ¬ w1.heap.size = w.heap.size + 1 := (by omega)); (try have c100 := hc1 (w.heap.size) 0 (by first | omega | (simp; done) | (simp; omega))); (try have f100 := hf1 (w.heap.size) 0 (by first | omega | (simp; done) | (simp; omega))); (try have c101 := hc1 (w.heap.size) 1 (by first | omega | (simp; done) | (simp; omega))); (try have f101 := hf1 (w.heap.size) 1 (by first | omega | (simp; done) | (simp; omega))); (try have c102 := hc1 (w.heap.size) 2 (by first | omega | (simp; done) | (simp; omega))); (try have f102 := hf1 (w.heap.size) 2 (by first | omega | (simp; done) | (simp; omega))); (try have c110 := hc1 (w.heap.size + 1) 0 (by first | omega | (simp; done) | (simp; omega))); (try have f110 := hf1 (w.heap.size + 1) 0 (by first | omega | (simp; done) | (simp; omega))); (try have c111 := hc1 (w.heap.size + 1) 1 (by first | omega | (simp; done) | (simp; omega))); (try have f111 := hf1 (w.heap.size + 1) 1 (by first | omega | (simp; done) | (simp; omega))); (try have c112 := hc1 (w.heap.size + 1) 2 (by first | omega | (simp; done) | (simp; omega))); (try have f112 := hf1 (w.heap.size + 1) 2 (by first | omega | (simp; done) | (simp; omega)))))
    go_ret2
    exact ⟨by simp [cdV, cdE, h1], by (repeat' (first | (with_reducible exact Below.refl _ _) | (with_reducible assumption) | (with_reducible refine bStep ?_ (by with_reducible assumption)) | (with_reducible refine bAlloc ?_ _) | (with_reducible refine bDrew ?_) | (with_reducible refine bDrewN ?_ _) | (with_reducible refine Below.setCell ?_ ?_ _) | (with_reducible exact Nat.le_refl _) | (simp; done) | (simp; omega)))⟩
  rcases h2 : isDir d e f
  · go_enter Try.func19, Try.ntmps19
    go_wp2_with (first | (go_at_call 21; refine (isDirS _ _ _ _).mono ?_; rintro e w1 ⟨rfl, hb1⟩; obtain ⟨hc1, hf1⟩ := bcell hb1; have hs1 := hb1.size; (try simp at hs1); (try have hl1 := Nat.lt_of_succ_le hs1); (try have hz10 : w.heap.size < w1.heap.size := (by have := hb1.size; (try simp at this); omega)); (try have hn10 : ¬ w.heap.size = w1.heap.size := (by omega)); (try have hm10 : ¬ w1.heap.size = w.heap.size := (by omega)); (try have hz11 : w.heap.size + 1 < w1.heap.size := (by have := hb1.size; (try simp at this); omega)); (try have hn11 : ¬ w.heap.size + 1 = w1.heap.size := (by omega)); (try have hm11 : ¬ w1.heap.size = w.heap.size + 1 := (by omega)); (try have c100 := hc1 (w.heap.size) 0 (by first | omega | (simp; done) | (simp; omega))); (try have f100 := hf1 (w.heap.size) 0 (by first | omega | (simp; done) | (simp; omega))); (try have c101 := hc1 (w.heap.size) 1 (by first | omega | (simp; done) | (simp; omega))); (try have f101 := hf1 (w.heap.size) 1 (by first | omega | (simp; done) | (simp; omega))); (try have c102 := hc1 (w.heap.size) 2 (by first | omega | (simp; done) | (simp; omega))); (try have f102 := hf1 (w.heap.size) 2 (by first | omega | (simp; done) | (simp; omega))); (try have c110 := hc1 (w.heap.size + 1) 0 (by first | omega | (simp; done) | (simp; omega))); (try have f110 := hf1 (w.heap.size + 1) 0 (by first | omega | (simp; done) | (simp; omega))); (try have c111 := hc1 (w.heap.size + 1) 1 (by first | omega | (simp; done) | (simp; omega))); (try have f111 := hf1 (w.heap.size + 1) 1 (by first | omega | (simp; done) | (simp; omega))); (try have c112 := hc1 (w.heap.size + 1) 2 (by first | omega | (simp; done) | (simp; omega))); (try have f112 := hf1 (w.heap.size + 1) 2 (by first | omega | (simp; done) | (simp; omega)))))
    go_ret2
    exact ⟨by simp [cdV, cdE, h1, h2], by (repeat' (first | (with_reducible exact Below.refl _ _) | (with_reducible assumption) | (with_reducible refine bStep ?_ (by with_reducible assumption)) | (with_reducible refine bAlloc ?_ _) | (with_reducible refine bDrew ?_) | (with_reducible refine bDrewN ?_ _) | (with_reducible refine Below.setCell ?_ ?_ _) | (with_reducible exact Nat.le_refl _) | (simp; done) | (simp; omega)))⟩
  have B1 := isDir_bd h1
  have B2 := isDir_bd h2
  go_enter Try.func19, Try.ntmps19
  go_wp2_with (first | (go_at_call 21; refine (isDirS _ _ _ _).mono ?_; rintro e w1 ⟨rfl, hb1⟩; obtain ⟨hc1, hf1⟩ := bcell hb1; have hs1 := hb1.size; (try simp at hs1); (try have hl1 := Nat.lt_of_succ_le hs1); (try have hz10 : w.heap.size < w1.heap.size := (by have := hb1.size; (try simp at this); omega)); (try have hn10 : ¬ w.heap.size = w1.heap.size := (by omega)); (try have hm10 : ¬ w1.heap.size = w.heap.size := (by omega)); (try have hz11 : w.heap.size + 1 < w1.heap.size := (by have := hb1.size; (try simp at this); omega)); (try have hn11 : ¬ w.heap.size + 1 = w1.heap.size := (by omega)); (try have hm11 : ¬ w1.heap.size = w.heap.size + 1 := (by omega)); (try have c100 := hc1 (w.heap.size) 0 (by first | omega | (simp; done) | (simp; omega))); (try have f100 := hf1 (w.heap.size) 0 (by first | omega | (simp; done) | (simp; omega))); (try have c101 := hc1 (w.heap.size) 1 (by first | omega | (simp; done) | (simp; omega))); (try have f101 := hf1 (w.heap.size) 1 (by first | omega | (simp; done) | (simp; omega))); (try have c102 := hc1 (w.heap.size) 2 (by first | omega | (simp; done) | (simp; omega))); (try have f102 := hf1 (w.heap.size) 2 (by first | omega | (simp; done) | (simp; omega))); (try have c110 := hc1 (w.heap.size + 1) 0 (by first | omega | (simp; done) | (simp; omega))); (try have f110 := hf1 (w.heap.size + 1) 0 (by first | omega | (simp; done) | (simp; omega))); (try have c111 := hc1 (w.heap.size + 1) 1 (by first | omega | (simp; done) | (simp; omega))); (try have f111 := hf1 (w.heap.size + 1) 1 (by first | omega | (simp; done) | (simp; omega))); (try have c112 := hc1 (w.heap.size + 1) 2 (by first | omega | (simp; done) | (simp; omega))); (try have f112 := hf1 (w.heap.size + 1) 2 (by first | omega | (simp; done) | (simp; omega)))) | (go_at_call 66; refine (cmpDS _ _ _ _ _ _ _ (by omega) (by omega) (by omega) (by omega)).mono ?_; rintro e w2 ⟨rfl, hb2⟩; obtain ⟨hc2, hf2⟩ := bcell hb2; have hs2 := hb2.size; (try simp at hs2); (try have hl2 := Nat.lt_of_succ_le hs2); (try have hz20 : w.heap.size < w2.heap.size := (by have := hb2.size; (try simp at this); omega)); (try have hn20 : ¬ w.heap.size = w2.heap.size := (by omega)); (try have hm20 : ¬ w2.heap.size = w.heap.size := (by omega)); (try have hz21 : w.heap.size + 1 < w2.heap.size := (by have := hb2.size; (try simp at this); omega)); (try have hn21 : ¬ w.heap.size + 1 = w2.heap.size := (by omega)); (try have hm21 : ¬ w2.heap.size = w.heap.size + 1 := (by omega)); (try have c200 := hc2 (w.heap.size) 0 (by first | omega | (simp; done) | (simp; omega))); (try have f200 := hf2 (w.heap.size) 0 (by first | omega | (simp; done) | (simp; omega))); (try have c201 := hc2 (w.heap.size) 1 (by first | omega | (simp; done) | (simp; omega))); (try have f201 := hf2 (w.heap.size) 1 (by first | omega | (simp; done) | (simp; omega))); (try have c202 := hc2 (w.heap.size) 2 (by first | omega | (simp; done) | (simp; omega))); (try have f202 := hf2 (w.heap.size) 2 (by first | omega | (simp; done) | (simp; omega))); (try have c210 := hc2 (w.heap.size + 1) 0 (by first | omega | (simp; done) | (simp; omega))); (try have f210 := hf2 (w.heap.size + 1) 0 (by first | omega | (simp; done) | (simp; omega))); (try have c211 := hc2 (w.heap.size + 1) 1 (by first | omega | (simp; done) | (simp; omega))); (try have f211 := hf2 (w.heap.size + 1) 1 (by first | omega | (simp; done) | (simp; omega))); (try have c212 := hc2 (w.heap.size + 1) 2 (by first | omega | (simp; done) | (simp; omega))); (try have f212 := hf2 (w.heap.size + 1) 2 (by first | omega | (simp; done) | (simp; omega)))))
  go_ret2
  exact ⟨by simp [cdV, cdE, h1, h2], by (repeat' (first | (with_reducible exact Below.refl _ _) | (with_reducible assumption) | (with_reducible refine bStep ?_ (by with_reducible assumption)) | (with_reducible refine bAlloc ?_ _) | (with_reducible refine bDrew ?_) | (with_reducible refine bDrewN ?_ _) | (with_reducible refine Below.setCell ?_ ?_ _) | (with_reducible exact Nat.le_refl _) | (simp; done) | (simp; omega)))⟩
set_option maxHeartbeats 400000 in
theorem cmpDIv (a b c d e f : Int) (w : World) : Calls Try.prog 18 #[.agg #[.int .i64 a, .int .i64 b, .int .i64 c], .agg #[.int .i64 d, .int .i64 e, .int .i64 f]] w fun o w' => o = .returned (.tuple #[.int .i64 (cdV a b c d e f), .int .i64 (cdE a b c d e f)]) ∧ Below w.heap.size w w' := by
  rcases h1 : isDir a b c
  · go_enter Try.func18, Try.ntmps18
    go_wp2_with (first | (go_at_call 20; refine (isDirI _ _ _ _).mono ?_; rintro e w1 ⟨rfl, hb1⟩; obtain ⟨hc1, hf1⟩ := bcell hb1; have hs1 := hb1.size; (try simp at hs1); (try have hl1 := Nat.lt_of_succ_le hs1); (try have hz10 : w.heap.size < w1.heap.size := (by have := hb1.size; (try simp at this); omega)); (try have hn10 : ¬ w.heap.size = w1.heap.size := (by omega)); (try have hm10 : ¬ w1.heap.size = w.heap.size := (by omega)); (try have hz11 : w.heap.size + 1 < w1.heap.size := (by have := hb1.size; (try simp at this); omega)); (try have hn11 : ¬ w.heap.size + 1 = w1.heap.size := (by omega)); (try have hm11 : ¬ w1.heap.size = w.heap.size + 1 := (by omega)); (try have c100 := hc1 (w.heap.size) 0 (by first | omega | (simp; done) | (simp; omega))); (try have f100 := hf1 (w.heap.size) 0 (by first | omega | (simp; done) | (simp; omega))); (try have c101 := hc1 (w.heap.size) 1 (by first | omega | (simp; done) | (simp; omega))); (try have f101 := hf1 (w.heap.size) 1 (by first | omega | (simp; done) | (simp; omega))); (try have c102 := hc1 (w.heap.size) 2 (by first | omega | (simp; done) | (simp; omega))); (try have f102 := hf1 (w.heap.size) 2 (by first | omega | (simp; done) | (simp; omega))); (try have c110 := hc1 (w.heap.size + 1) 0 (by first | omega | (simp; done) | (simp; omega))); (try have f110 := hf1 (w.heap.size + 1) 0 (by first | omega | (simp; done) | (simp; omega))); (try have c111 := hc1 (w.heap.size + 1) 1 (by first | omega | (simp; done) | (simp; omega))); (try have f111 := hf1 (w.heap.size + 1) 1 (by first | omega | (simp; done) | (simp; omega))); (try have c112 := hc1 (w.heap.size + 1) 2 (by first | omega | (simp; done) | (simp; omega))); (try have f112 := hf1 (w.heap.size + 1) 2 (by first | omega | (simp; done) | (simp; omega)))))
    go_ret2
    exact ⟨by simp [cdV, cdE, h1], by (repeat' (first | (with_reducible exact Below.refl _ _) | (with_reducible assumption) | (with_reducible refine bStep ?_ (by with_reducible assumption)) | (with_reducible refine bAlloc ?_ _) | (with_reducible refine bDrew ?_) | (with_reducible refine bDrewN ?_ _) | (with_reducible refine Below.setCell ?_ ?_ _) | (with_reducible exact Nat.le_refl _) | (simp; done) | (simp; omega)))⟩
  rcases h2 : isDir d e f
  · go_enter Try.func18, Try.ntmps18
    go_wp2_with (first | (go_at_call 20; refine (isDirI _ _ _ _).mono ?_; rintro e w1 ⟨rfl, hb1⟩; obtain ⟨hc1, hf1⟩ := bcell hb1; have hs1 := hb1.size; (try simp at hs1); (try have hl1 := Nat.lt_of_succ_le hs1); (try have hz10 : w.heap.size < w1.heap.size := (by have := hb1.size; (try simp at this); omega)); (try have hn10 : ¬ w.heap.size = w1.heap.size := (by omega)); (try have hm10 : ¬ w1.heap.size = w.heap.size := (by omega)); (try have hz11 : w.heap.size + 1 < w1.heap.size := (by have := hb1.size; (try simp at this); omega)); (try have hn11 : ¬ w.heap.size + 1 = w1.heap.size := (by omega)); (try have hm11 : ¬ w1.heap.size = w.heap.size + 1 := (by omega)); (try have c100 := hc1 (w.heap.size) 0 (by first | omega | (simp; done) | (simp; omega))); (try have f100 := hf1 (w.heap.size) 0 (by first | omega | (simp; done) | (simp; omega))); (try have c101 := hc1 (w.heap.size) 1 (by first | omega | (simp; done) | (simp; omega))); (try have f101 := hf1 (w.heap.size) 1 (by first | omega | (simp; done) | (simp; omega))); (try have c102 := hc1 (w.heap.size) 2 (by first | omega | (simp; done) | (simp; omega))); (try have f102 := hf1 (w.heap.size) 2 (by first | omega | (simp; done) | (simp; omega))); (try have c110 := hc1 (w.heap.size + 1) 0 (by first | omega | (simp; done) | (simp; omega))); (try have f110 := hf1 (w.heap.size + 1) 0 (by first | omega | (simp; done) | (simp; omega))); (try have c111 := hc1 (w.heap.size + 1) 1 (by first | omega | (simp; done) | (simp; omega))); (try have f111 := hf1 (w.heap.size + 1) 1 (by first | omega | (simp; done) | (simp; omega))); (try have c112 := hc1 (w.heap.size + 1) 2 (by first | omega | (simp; done) | (simp; omega))); (try have f112 := hf1 (w.heap.size + 1) 2 (by first | omega | (simp; done) | (simp; omega)))))
    go_ret2
    exact ⟨by simp [cdV, cdE, h1, h2], by (repeat' (first | (with_reducible exact Below.refl _ _) | (with_reducible assumption) | (with_reducible refine bStep ?_ (by with_reducible assumption)) | (with_reducible refine bAlloc ?_ _) | (with_reducible refine bDrew ?_) | (with_reducible refine bDrewN ?_ _) | (with_reducible refine Below.setCell ?_ ?_ _) | (with_reducible exact Nat.le_refl _) | (simp; done) | (simp; omega)))⟩
  have B1 := isDir_bd h1
  have B2 := isDir_bd h2
  go_enter Try.func18, Try.ntmps18
  go_wp2_with (first | (go_at_call 20; refine (isDirI _ _ _ _).mono ?_; rintro e w1 ⟨rfl, hb1⟩; obtain ⟨hc1, hf1⟩ := bcell hb1; have hs1 := hb1.size; (try simp at hs1); (try have hl1 := Nat.lt_of_succ_le hs1); (try have hz10 : w.heap.size < w1.heap.size := (by have := hb1.size; (try simp at this); omega)); (try have hn10 : ¬ w.heap.size = w1.heap.size := (by omega)); (try have hm10 : ¬ w1.heap.size = w.heap.size := (by omega)); (try have hz11 : w.heap.size + 1 < w1.heap.size := (by have := hb1.size; (try simp at this); omega)); (try have hn11 : ¬ w.heap.size + 1 = w1.heap.size := (by omega)); (try have hm11 : ¬ w1.heap.size = w.heap.size + 1 := (by omega)); (try have c100 := hc1 (w.heap.size) 0 (by first | omega | (simp; done) | (simp; omega))); (try have f100 := hf1 (w.heap.size) 0 (by first | omega | (simp; done) | (simp; omega))); (try have c101 := hc1 (w.heap.size) 1 (by first | omega | (simp; done) | (simp; omega))); (try have f101 := hf1 (w.heap.size) 1 (by first | omega | (simp; done) | (simp; omega))); (try have c102 := hc1 (w.heap.size) 2 (by first | omega | (simp; done) | (simp; omega))); (try have f102 := hf1 (w.heap.size) 2 (by first | omega | (simp; done) | (simp; omega))); (try have c110 := hc1 (w.heap.size + 1) 0 (by first | omega | (simp; done) | (simp; omega))); (try have f110 := hf1 (w.heap.size + 1) 0 (by first | omega | (simp; done) | (simp; omega))); (try have c111 := hc1 (w.heap.size + 1) 1 (by first | omega | (simp; done) | (simp; omega))); (try have f111 := hf1 (w.heap.size + 1) 1 (by first | omega | (simp; done) | (simp; omega))); (try have c112 := hc1 (w.heap.size + 1) 2 (by first | omega | (simp; done) | (simp; omega))); (try have f112 := hf1 (w.heap.size + 1) 2 (by first | omega | (simp; done) | (simp; omega)))) | (go_at_call 65; refine (cmpDI _ _ _ _ _ _ _ (by omega) (by omega) (by omega) (by omega)).mono ?_; rintro e w2 ⟨rfl, hb2⟩; obtain ⟨hc2, hf2⟩ := bcell hb2; have hs2 := hb2.size; (try simp at hs2); (try have hl2 := Nat.lt_of_succ_le hs2); (try have hz20 : w.heap.size < w2.heap.size := (by have := hb2.size; (try simp at this); omega)); (try have hn20 : ¬ w.heap.size = w2.heap.size := (by omega)); (try have hm20 : ¬ w2.heap.size = w.heap.size := (by omega)); (try have hz21 : w.heap.size + 1 < w2.heap.size := (by have := hb2.size; (try simp at this); omega)); (try have hn21 : ¬ w.heap.size + 1 = w2.heap.size := (by omega)); (try have hm21 : ¬ w2.heap.size = w.heap.size + 1 := (by omega)); (try have c200 := hc2 (w.heap.size) 0 (by first | omega | (simp; done) | (simp; omega))); (try have f200 := hf2 (w.heap.size) 0 (by first | omega | (simp; done) | (simp; omega))); (try have c201 := hc2 (w.heap.size) 1 (by first | omega | (simp; done) | (simp; omega))); (try have f201 := hf2 (w.heap.size) 1 (by first | omega | (simp; done) | (simp; omega))); (try have c202 := hc2 (w.heap.size) 2 (by first | omega | (simp; done) | (simp; omega))); (try have f202 := hf2 (w.heap.size) 2 (by first | omega | (simp; done) | (simp; omega))); (try have c210 := hc2 (w.heap.size + 1) 0 (by first | omega | (simp; done) | (simp; omega))); (try have f210 := hf2 (w.heap.size + 1) 0 (by first | omega | (simp; done) | (simp; omega))); (try have c211 := hc2 (w.heap.size + 1) 1 (by first | omega | (simp; done) | (simp; omega))); (try have f211 := hf2 (w.heap.size + 1) 1 (by first | omega | (simp; done) | (simp; omega))); (try have c212 := hc2 (w.heap.size + 1) 2 (by first | omega | (simp; done) | (simp; omega))); (try have f212 := hf2 (w.heap.size + 1) 2 (by first | omega | (simp; done) | (simp; omega)))))
  go_ret2
  exact ⟨by simp [cdV, cdE, h1, h2], by (repeat' (first | (with_reducible exact Below.refl _ _) | (with_reducible assumption) | (with_reducible refine bStep ?_ (by with_reducible assumption)) | (with_reducible refine bAlloc ?_ _) | (with_reducible refine bDrew ?_) | (with_reducible refine bDrewN ?_ _) | (with_reducible refine Below.setCell ?_ ?_ _) | (with_reducible exact Nat.le_refl _) | (simp; done) | (simp; omega)))⟩
theorem eqDir (a b c d e f : Int) (w : World) : Calls Try.prog 103 #[.agg #[.int .i64 a, .int .i64 b, .int .i64 c], .agg #[.int .i64 d, .int .i64 e, .int .i64 f]] w fun o w' => o = .returned (.bool (decide (a = d ∧ b = e ∧ c = f))) ∧ Below w.heap.size w w' := by
  rcases h1 : (a != d)
  · have e1 : a = d := by simpa using h1
    rcases h2 : (b != e)
    · have e2 : b = e := by simpa using h2
      rcases h3 : (c != f)
      · have e3 : c = f := by simpa using h3
        go_enter Try.func103, Try.ntmps103
        go_wp2
        go_ret
        exact ⟨ret_b (by simp [e1, e2, e3]), by (repeat' (first | (with_reducible exact Below.refl _ _) | (with_reducible assumption) | (with_reducible refine bStep ?_ (by with_reducible assumption)) | (with_reducible refine bAlloc ?_ _) | (with_reducible refine bDrew ?_) | (with_reducible refine bDrewN ?_ _) | (with_reducible refine Below.setCell ?_ ?_ _) | (with_reducible exact Nat.le_refl _) | (simp; done) | (simp; omega)))⟩
      · have e3 : ¬ c = f := by simpa using h3
        go_enter Try.func103, Try.ntmps103
        go_wp2
        go_ret
        exact ⟨ret_b (by simp [e3]), by (repeat' (first | (with_reducible exact Below.refl _ _) | (with_reducible assumption) | (with_reducible refine bStep ?_ (by with_reducible assumption)) | (with_reducible refine bAlloc ?_ _) | (with_reducible refine bDrew ?_) | (with_reducible refine bDrewN ?_ _) | (with_reducible refine Below.setCell ?_ ?_ _) | (with_reducible exact Nat.le_refl _) | (simp; done) | (simp; omega)))⟩
    · have e2 : ¬ b = e := by simpa using h2
      go_enter Try.func103, Try.ntmps103
      go_wp2
      go_ret
      exact ⟨ret_b (by simp [e2]), by (repeat' (first | (with_reducible exact Below.refl _ _) | (with_reducible assumption) | (with_reducible refine bStep ?_ (by with_reducible assumption)) | (with_reducible refine bAlloc ?_ _) | (with_reducible refine bDrew ?_) | (with_reducible refine bDrewN ?_ _) | (with_reducible refine Below.setCell ?_ ?_ _) | (with_reducible exact Nat.le_refl _) | (simp; done) | (simp; omega)))⟩
  · have e1 : ¬ a = d := by simpa using h1
    go_enter Try.func103, Try.ntmps103
    go_wp2
    go_ret
    exact ⟨ret_b (by simp [e1]), by (repeat' (first | (with_reducible exact Below.refl _ _) | (with_reducible assumption) | (with_reducible refine bStep ?_ (by with_reducible assumption)) | (with_reducible refine bAlloc ?_ _) | (with_reducible refine bDrew ?_) | (with_reducible refine bDrewN ?_ _) | (with_reducible refine Below.setCell ?_ ?_ _) | (with_reducible exact Nat.le_refl _) | (simp; done) | (simp; omega)))⟩
def alk (b e : Int) : Bool := decide (b > 0) == decide (e > 0)
theorem cmpP_lt {p q : Int} (h : p < q) : cmpP p q = -1 := by unfold cmpP; rw [if_pos h]
theorem cmpP_gt {p q : Int} (h : q < p) : cmpP p q = 1 := by unfold cmpP; rw [if_neg (by omega), if_pos h]
theorem cmpP_eq {p q : Int} (h : p = q) : cmpP p q = 0 := by unfold cmpP; rw [if_neg (by omega), if_neg (by omega)]
theorem fr_le {c1 h1 c2 h2 c3 h3 : Int} (p1 : 1 ≤ h1) (p2 : 1 ≤ h2) (p3 : 1 ≤ h3) (k : c1 * h2 ≤ c2 * h1) (l : c2 * h3 ≤ c3 * h2) : c1 * h3 ≤ c3 * h1 := by
  have e1 : h2 * (c1 * h3) = c1 * h2 * h3 := by simp [Int.mul_comm, Int.mul_left_comm, Int.mul_assoc]
  have e2 : h2 * (c3 * h1) = c3 * h2 * h1 := by simp [Int.mul_comm, Int.mul_left_comm, Int.mul_assoc]
  have e3 : c2 * h1 * h3 = c2 * h3 * h1 := by simp [Int.mul_comm, Int.mul_left_comm, Int.mul_assoc]
  have a1 := Int.mul_le_mul_of_nonneg_right k (show 0 ≤ h3 by omega)
  have a2 := Int.mul_le_mul_of_nonneg_right l (show 0 ≤ h1 by omega)
  exact Int.le_of_mul_le_mul_left (a := h2) (by omega) (by omega)
theorem fr_lt {c1 h1 c2 h2 c3 h3 : Int} (p1 : 1 ≤ h1) (p2 : 1 ≤ h2) (p3 : 1 ≤ h3) (k : c1 * h2 < c2 * h1) (l : c2 * h3 ≤ c3 * h2) : c1 * h3 < c3 * h1 := by
  have e1 : h2 * (c1 * h3) = c1 * h2 * h3 := by simp [Int.mul_comm, Int.mul_left_comm, Int.mul_assoc]
  have e2 : h2 * (c3 * h1) = c3 * h2 * h1 := by simp [Int.mul_comm, Int.mul_left_comm, Int.mul_assoc]
  have e3 : c2 * h1 * h3 = c2 * h3 * h1 := by simp [Int.mul_comm, Int.mul_left_comm, Int.mul_assoc]
  have a1 := Int.mul_lt_mul_of_pos_right k (show 0 < h3 by omega)
  have a2 := Int.mul_le_mul_of_nonneg_right l (show 0 ≤ h1 by omega)
  exact Int.lt_of_mul_lt_mul_left (a := h2) (by omega) (by omega)
theorem fr_lt' {c1 h1 c2 h2 c3 h3 : Int} (p1 : 1 ≤ h1) (p2 : 1 ≤ h2) (p3 : 1 ≤ h3) (k : c1 * h2 ≤ c2 * h1) (l : c2 * h3 < c3 * h2) : c1 * h3 < c3 * h1 := by
  have e1 : h2 * (c1 * h3) = c1 * h2 * h3 := by simp [Int.mul_comm, Int.mul_left_comm, Int.mul_assoc]
  have e2 : h2 * (c3 * h1) = c3 * h2 * h1 := by simp [Int.mul_comm, Int.mul_left_comm, Int.mul_assoc]
  have e3 : c2 * h1 * h3 = c2 * h3 * h1 := by simp [Int.mul_comm, Int.mul_left_comm, Int.mul_assoc]
  have a1 := Int.mul_le_mul_of_nonneg_right k (show 0 ≤ h3 by omega)
  have a2 := Int.mul_lt_mul_of_pos_right l (show 0 < h1 by omega)
  exact Int.lt_of_mul_lt_mul_left (a := h2) (by omega) (by omega)
/-- x y z: the fractions x1/x2 and so on lie in order; the reference's product test is the program's three tests -/
theorem between_eq {c1 h1 c2 h2 c3 h3 : Int} (p1 : 1 ≤ h1) (p2 : 1 ≤ h2) (p3 : 1 ≤ h3) :
    decide (cmpP (c1 * h3) (c3 * h1) * cmpP (c2 * h3) (c3 * h2) ≤ 0) = (decide (cmpP (c1 * h3) (c3 * h1) * cmpP (c1 * h2) (c2 * h1) ≥ 0) && decide (cmpP (c3 * h2) (c2 * h3) * cmpP (c1 * h2) (c2 * h1) ≥ 0) && ((cmpP (c1 * h2) (c2 * h1) != 0) || (cmpP (c1 * h3) (c3 * h1) == 0))) := by
  rcases (by omega : c1 * h2 < c2 * h1 ∨ c2 * h1 < c1 * h2 ∨ c1 * h2 = c2 * h1) with a | a | a <;>
  rcases (by omega : c1 * h3 < c3 * h1 ∨ c3 * h1 < c1 * h3 ∨ c1 * h3 = c3 * h1) with b | b | b <;>
  rcases (by omega : c2 * h3 < c3 * h2 ∨ c3 * h2 < c2 * h3 ∨ c2 * h3 = c3 * h2) with c | c | c
  all_goals
    first
      | (simp only [cmpP_lt, cmpP_gt, cmpP_eq, a, b, c]; done)
      | (have A : cmpP (c1 * h2) (c2 * h1) = _ := (by first | exact cmpP_lt a | exact cmpP_gt a | exact cmpP_eq a)
         have B : cmpP (c1 * h3) (c3 * h1) = _ := (by first | exact cmpP_lt b | exact cmpP_gt b | exact cmpP_eq b)
         have C : cmpP (c2 * h3) (c3 * h2) = _ := (by first | exact cmpP_lt c | exact cmpP_gt c | exact cmpP_eq c)
         have D : cmpP (c3 * h2) (c2 * h3) = _ := (by first | exact cmpP_lt c | exact cmpP_gt c | exact cmpP_eq c.symm)
         rw [A, B, C, D]; decide)
      | (exfalso
         have l1 := fr_le (c1 := c1) (h1 := h1) (c2 := c2) (h2 := h2) (c3 := c3) (h3 := h3) p1 p2 p3
         have l2 := fr_le (c1 := c3) (h1 := h3) (c2 := c2) (h2 := h2) (c3 := c1) (h3 := h1) p3 p2 p1
         have l3 := fr_le (c1 := c2) (h1 := h2) (c2 := c1) (h2 := h1) (c3 := c3) (h3 := h3) p2 p1 p3
         have l4 := fr_le (c1 := c3) (h1 := h3) (c2 := c1) (h2 := h1) (c3 := c2) (h3 := h2) p3 p1 p2
         have l5 := fr_lt (c1 := c1) (h1 := h1) (c2 := c2) (h2 := h2) (c3 := c3) (h3 := h3) p1 p2 p3
         have l6 := fr_lt (c1 := c3) (h1 := h3) (c2 := c2) (h2 := h2) (c3 := c1) (h3 := h1) p3 p2 p1
         have l7 := fr_lt' (c1 := c1) (h1 := h1) (c2 := c2) (h2 := h2) (c3 := c3) (h3 := h3) p1 p2 p3
         have l8 := fr_lt' (c1 := c3) (h1 := h3) (c2 := c2) (h2 := h2) (c3 := c1) (h3 := h1) p3 p2 p1
         omega)
theorem alkS (a b c d e f : Int) (w : World) : Calls Try.prog 84 #[.agg #[.int .i64 a, .int .i64 b, .int .i64 c], .agg #[.int .i64 d, .int .i64 e, .int .i64 f]] w fun o w' => o = .returned (.bool (alk b e)) ∧ Below w.heap.size w w' := by
  rcases h1 : decide (b > 0) <;> rcases h2 : decide (e > 0)
  all_goals
    have k1 := h1
    have k2 := h2
    simp only [decide_eq_true_eq, decide_eq_false_iff_not] at k1 k2
    go_enter Try.func84, Try.ntmps84
    go_wp2
    go_ret
    exact ⟨ret_b (by simp [alk, h1, h2]), by (repeat' (first | (with_reducible exact Below.refl _ _) | (with_reducible assumption) | (with_reducible refine bStep ?_ (by with_reducible assumption)) | (with_reducible refine bAlloc ?_ _) | (with_reducible refine bDrew ?_) | (with_reducible refine bDrewN ?_ _) | (with_reducible refine Below.setCell ?_ ?_ _) | (with_reducible exact Nat.le_refl _) | (simp; done) | (simp; omega)))⟩
theorem alkI (a b c d e f : Int) (w : World) : Calls Try.prog 83 #[.agg #[.int .i64 a, .int .i64 b, .int .i64 c], .agg #[.int .i64 d, .int .i64 e, .int .i64 f]] w fun o w' => o = .returned (.bool (alk b e)) ∧ Below w.heap.size w w' := by
  rcases h1 : decide (b > 0) <;> rcases h2 : decide (e > 0)
  all_goals
    have k1 := h1
    have k2 := h2
    simp only [decide_eq_true_eq, decide_eq_false_iff_not] at k1 k2
    go_enter Try.func83, Try.ntmps83
    go_wp2
    go_ret
    exact ⟨ret_b (by simp [alk, h1, h2]), by (repeat' (first | (with_reducible exact Below.refl _ _) | (with_reducible assumption) | (with_reducible refine bStep ?_ (by with_reducible assumption)) | (with_reducible refine bAlloc ?_ _) | (with_reducible refine bDrew ?_) | (with_reducible refine bDrewN ?_ _) | (with_reducible refine Below.setCell ?_ ?_ _) | (with_reducible exact Nat.le_refl _) | (simp; done) | (simp; omega)))⟩
end Go.Proofs.Ytincelkcbdjcjaa
