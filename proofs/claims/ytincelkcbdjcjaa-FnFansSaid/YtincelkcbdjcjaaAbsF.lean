/- What fans give, their terms put away. -/
import Derived.Test.YtincelkcbdjcjaaWFan
import Derived.Test.YtincelkcbdjcjaaWLies
import Derived.Test.YtincelkcbdjcjaaLawD
namespace Go.Proofs.Ytincelkcbdjcjaa
open Go.RowKit
set_option linter.unusedVariables false

theorem cross_le {m m' n : Int} (h : dOk m n = true) (h' : dOk m' n = true) (hle : m ≤ m') : dC m' n * dH m n ≤ dC m n * dH m' n := by
  obtain ⟨g, g0, c1, c2, _⟩ := mk_dir h
  obtain ⟨k, k0, e1, e2, _⟩ := mk_dir h'
  obtain ⟨bn, bm, bs⟩ := dOk_bd h
  obtain ⟨_, bm', _⟩ := dOk_bd h'
  have gk := Int.mul_pos g0 k0
  have a1 : (dC m n * dH m' n) * (g * k) = (n * n - m * m) * (n * n + m' * m') := by
    rw [← c1, ← e2]; simp only [Int.mul_assoc, Int.mul_comm, Int.mul_left_comm]
  have a2 : (dC m' n * dH m n) * (g * k) = (n * n - m' * m') * (n * n + m * m) := by
    rw [← c2, ← e1]; simp only [Int.mul_assoc, Int.mul_comm, Int.mul_left_comm]
  have hn : 0 < n * n := Int.mul_pos (by omega) (by omega)
  have hm : m * m ≤ m' * m' := Int.mul_le_mul hle hle (by omega) (by omega)
  have a3 : (n * n - m' * m') * (n * n + m * m) ≤ (n * n - m * m) * (n * n + m' * m') := by
    generalize n * n = p at *
    generalize m * m = q at *
    generalize m' * m' = r at *
    have := Int.mul_nonneg (show 0 ≤ p by omega) (show 0 ≤ r - q by omega)
    rw [Int.mul_sub] at this
    rw [Int.sub_mul, Int.sub_mul, Int.mul_add, Int.mul_add, Int.mul_add, Int.mul_add, Int.mul_comm r p, Int.mul_comm r q, Int.mul_comm q p]
    omega
  rcases Int.lt_or_le (dC m n * dH m' n) (dC m' n * dH m n) with t | t
  · have := Int.mul_lt_mul_of_pos_right t gk
    omega
  · exact t
theorem cmpP_ge {p q : Int} (h : q ≤ p) : cmpP p q = 0 ∨ cmpP p q = 1 := by unfold cmpP; rw [if_neg (by omega)]; split <;> simp
theorem cmpP_le {p q : Int} (h : p ≤ q) : cmpP p q = 0 ∨ cmpP p q = -1 := by unfold cmpP; split <;> simp; omega
theorem dS_side {m n : Int} (h : dOk m n = true) (q : Bool) : decide (dS m n q > 0) = q := by
  obtain ⟨_, _, _, _, _, _, _, h3, _⟩ := mk_dir h
  have := h3 q
  cases q <;> simp at this ⊢ <;> omega
theorem fan_lie {n l h : Int} (q : Bool) (hf : isFanB n l h = true) (i k : Nat) (hk : l + (k : Int) = h) (hi : i ≤ k) :
    lieV (dC (l + (0 : Nat)) n) (dS (l + (0 : Nat)) n q) (dH (l + (0 : Nat)) n) (dC (l + (k : Nat)) n) (dS (l + (k : Nat)) n q) (dH (l + (k : Nat)) n) (dC (l + (i : Nat)) n) (dS (l + (i : Nat)) n q) (dH (l + (i : Nat)) n) = true := by
  have o0 := fan_ok hf (m := l + ((0 : Nat) : Int)) (by omega) (by omega)
  have ok := fan_ok hf (m := l + ((k : Nat) : Int)) (by omega) (by omega)
  have oi := fan_ok hf (m := l + ((i : Nat) : Int)) (by omega) (by omega)
  obtain ⟨_, _, _, _, _, _, _, _, d0⟩ := mk_dir o0
  obtain ⟨_, _, _, _, _, _, _, _, dk⟩ := mk_dir ok
  obtain ⟨_, _, _, _, _, _, _, _, di⟩ := mk_dir oi
  have c0 := cross_le o0 oi (by omega)
  have c1 := cross_le oi ok (by omega)
  unfold lieV alk
  rw [d0 q, dk q, di q, dS_side o0, dS_side ok, dS_side oi]
  rcases cmpP_ge c0 with e | e <;> rcases cmpP_le c1 with e' | e' <;> rw [e, e'] <;> simp
theorem fan_cmp {n l h : Int} (q : Bool) (hf : isFanB n l h = true) (i : Nat) (hi : l + ((i + 1 : Nat) : Int) ≤ h) :
    cdV (dC (l + (i : Nat)) n) (dS (l + (i : Nat)) n q) (dH (l + (i : Nat)) n) (dC (l + ((i + 1 : Nat) : Int)) n) (dS (l + ((i + 1 : Nat) : Int)) n q) (dH (l + ((i + 1 : Nat) : Int)) n) = 1 ∧
    cdE (dC (l + (i : Nat)) n) (dS (l + (i : Nat)) n q) (dH (l + (i : Nat)) n) (dC (l + ((i + 1 : Nat) : Int)) n) (dS (l + ((i + 1 : Nat) : Int)) n q) (dH (l + ((i + 1 : Nat) : Int)) n) = 0 := by
  have hi' : l + ((i + 1 : Nat) : Int) = l + (i : Int) + 1 := by omega
  rw [hi'] at hi ⊢
  have oi := fan_ok hf (m := l + (i : Int)) (by omega) (by omega)
  have oj := fan_ok hf (m := l + (i : Int) + 1) (by omega) (by omega)
  obtain ⟨_, _, _, _, _, _, _, _, di⟩ := mk_dir oi
  obtain ⟨_, _, _, _, _, _, _, _, dj⟩ := mk_dir oj
  unfold cdV cdE
  rw [di q, dj q]
  exact ⟨steeper oi oj, rfl⟩
theorem fans_abs (n l h : Int) (q : Bool) (wn : -9223372036854775808 ≤ n) : ∃ (m : Nat) (r : Int) (F G H : Nat → Int), m ≤ 1000 ∧
    (∀ w0 : World, Calls Try.prog 33 #[.int .i64 n, .int .i64 l, .int .i64 h, .bool q] w0 (FanQ m r F G H w0)) ∧
    (∀ w0 : World, Calls Try.prog 32 #[.int .i64 n, .int .i64 l, .int .i64 h, .bool q] w0 (FanQ m r F G H w0)) ∧
    (∀ w0 : World, Calls Try.prog 36 #[.int .i64 n, .int .i64 l, .int .i64 h] w0 fun o w' => o = .returned (.bool (r == 0)) ∧ w0 = w') ∧
    (r = 1 ∨ r = 0 ∧ ∃ k : Nat, m = k + 1 ∧ h = l + (k : Int) ∧ (1 ≤ l ∧ l ≤ 1000) ∧
      (∀ i : Nat, i ≤ k → (∀ w0 : World, Calls Try.prog 37 #[.agg #[.int .i64 (F 0), .int .i64 (G 0), .int .i64 (H 0)], .agg #[.int .i64 (F k), .int .i64 (G k), .int .i64 (H k)], .agg #[.int .i64 (F i), .int .i64 (G i), .int .i64 (H i)]] w0 fun o w' => o = .returned (.bool true) ∧ Below w0.heap.size w0 w')) ∧
      (∀ i : Nat, i + 1 ≤ k → (∀ w0 : World, Calls Try.prog 18 #[.agg #[.int .i64 (F i), .int .i64 (G i), .int .i64 (H i)], .agg #[.int .i64 (F (i + 1)), .int .i64 (G (i + 1)), .int .i64 (H (i + 1))]] w0 fun o w' => o = .returned (.tuple #[.int .i64 1, .int .i64 0]) ∧ Below w0.heap.size w0 w'))) := by
  refine ⟨fnN n l h, fnE n l h, (fun i => dC (l + (i : Nat)) n), (fun i => dS (l + (i : Nat)) n q), (fun i => dH (l + (i : Nat)) n), fnN_le n l h, fun w0 => ?_, fun w0 => ?_, fun w0 => ?_, ?_⟩
  · refine (fanOfS n l h q w0 wn).mono ?_
    rintro e w' ⟨A, c, e1, O, hb⟩
    rw [fanC_eq] at O
    exact ⟨A, c, e1, O, hb⟩
  · refine (fanOfI n l h q w0 wn).mono ?_
    rintro e w' ⟨A, c, e1, O, hb⟩
    rw [fanC_eq] at O
    exact ⟨A, c, e1, O, hb⟩
  · refine (fanI n l h w0 wn).mono ?_
    rintro e w' ⟨rfl, rfl⟩
    refine ⟨?_, rfl⟩
    unfold fnE
    rcases hf : isFanB n l h <;> simp
  · rcases hf : isFanB n l h
    · left; simp [fnE, hf]
    · right
      have bd := fan_bd hf
      refine ⟨by simp [fnE, hf], (h - l).toNat, by simp only [fnN, hf, if_true]; omega, by omega, by omega, fun i hi w0 => ?_, fun i hi w0 => ?_⟩
      · have := lieI (dC (l + (0 : Nat)) n) (dS (l + (0 : Nat)) n q) (dH (l + (0 : Nat)) n) (dC (l + ((h - l).toNat : Nat)) n) (dS (l + ((h - l).toNat : Nat)) n q) (dH (l + ((h - l).toNat : Nat)) n) (dC (l + (i : Nat)) n) (dS (l + (i : Nat)) n q) (dH (l + (i : Nat)) n) w0
        rw [fan_lie q hf i _ (by omega) hi] at this
        exact this
      · have := cmpDIv (dC (l + (i : Nat)) n) (dS (l + (i : Nat)) n q) (dH (l + (i : Nat)) n) (dC (l + ((i + 1 : Nat) : Int)) n) (dS (l + ((i + 1 : Nat) : Int)) n q) (dH (l + ((i + 1 : Nat) : Int)) n) w0
        obtain ⟨e1, e2⟩ := fan_cmp q hf i (by omega)
        rw [e1, e2] at this
        exact this
end Go.Proofs.Ytincelkcbdjcjaa
