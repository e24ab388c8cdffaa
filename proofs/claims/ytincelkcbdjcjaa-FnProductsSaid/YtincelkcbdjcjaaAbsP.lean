/- What products and quotients of intervals give, with their terms put away. -/
import Derived.Test.YtincelkcbdjcjaaQuoIv
import Derived.Test.YtincelkcbdjcjaaLawI
import Derived.Test.YtincelkcbdjcjaaDraw
namespace Go.Proofs.Ytincelkcbdjcjaa
open Go.RowKit
set_option linter.unusedVariables false

theorem prod_abs (a b p q : Int) (ha : I64 a) (hb : I64 b) (hp : I64 p) (hq : I64 q) : ∃ l h k : Int, (∀ w0 : World, Calls Try.prog 40 #[.agg #[.int .i64 a, .int .i64 b], .agg #[.int .i64 p, .int .i64 q]] w0 fun o w' => o = .returned (.tuple #[.agg #[.int .i64 l, .int .i64 h], .int .i64 k]) ∧ Below w0.heap.size w0 w') ∧ (∀ w0 : World, Calls Try.prog 41 #[.agg #[.int .i64 a, .int .i64 b], .agg #[.int .i64 p, .int .i64 q]] w0 fun o w' => o = .returned (.tuple #[.agg #[.int .i64 l, .int .i64 h], .int .i64 k]) ∧ Below w0.heap.size w0 w') ∧
    (¬ k = 0 ∨ k = 0 ∧ ((-1000000 ≤ a ∧ a ≤ b ∧ b ≤ 1000000) ∧ -1000000 ≤ p ∧ p ≤ q ∧ q ≤ 1000000) ∧
      ∀ x y : Int, a ≤ x → x ≤ b → p ≤ y → y ≤ q → (x * y).natAbs ≤ 1000000000000 ∧ (∀ w0 : World, Calls Try.prog 30 #[.agg #[.int .i64 l, .int .i64 h], .int .i64 (x * y)] w0 fun o w' => o = .returned (.bool true) ∧ Below w0.heap.size w0 w')) := by
  refine ⟨pdL a b p q, pdH a b p q, pdC a b p q, fun w0 => prodI a b p q ha.out hb.out hp.out hq.out w0, fun w0 => prodS a b p q w0, ?_⟩
  by_cases hc : pdC a b p q = 0
  · right
    have hiv : iv2 a b p q = true := by
      rcases hk : iv2 a b p q
      · simp [pdC, hk] at hc
      · rfl
    have hok : pdOk a b p q = true := by
      rcases hk : pdOk a b p q
      · simp [pdC, hiv, hk] at hc
      · rfl
    have hsm : (-1000000 ≤ a ∧ b ≤ 1000000) ∧ -1000000 ≤ p ∧ q ≤ 1000000 := by
      have := hok
      simp only [pdOk, smB, Bool.and_eq_true, decide_eq_true_eq] at this
      exact this.2
    have hi2 : isIv a b = true ∧ isIv p q = true := by simpa [iv2] using hiv
    have b1 := isIv_bdp hi2.1
    have b2 := isIv_bdp hi2.2
    refine ⟨hc, ⟨by omega, by omega⟩, fun x y h1 h2 h3 h4 => ?_⟩
    have m0 := mul_bdp (x := x) (y := y) 1000000 1000000 (by omega) (by omega)
    have m1 := mul_bdp (x := a) (y := p) 1000000 1000000 (by omega) (by omega)
    have m2 := mul_bdp (x := a) (y := q) 1000000 1000000 (by omega) (by omega)
    have m3 := mul_bdp (x := b) (y := p) 1000000 1000000 (by omega) (by omega)
    have m4 := mul_bdp (x := b) (y := q) 1000000 1000000 (by omega) (by omega)
    have hcor := corner h1 h2 h3 h4
    have n1 := mn4_of (rfl : mn4 (a * p) (a * q) (b * p) (b * q) = _)
    have n2 := mx4_of (rfl : mx4 (a * p) (a * q) (b * p) (b * q) = _)
    have hA : (pdA a b p q).natAbs ≤ 1000000000000 := by unfold pdA; omega
    have hB : (pdB a b p q).natAbs ≤ 1000000000000 := by unfold pdB; omega
    obtain ⟨r1, r2, _⟩ := res_small hA hB 2
    have e1 : pdL a b p q = pdA a b p q := by unfold pdL; rw [if_pos hok, r1]
    have e2 : pdH a b p q = pdB a b p q := by unfold pdH; rw [if_pos hok, r2]
    have hle : pdA a b p q ≤ x * y ∧ x * y ≤ pdB a b p q := hcor
    refine ⟨by omega, fun w0 => ?_⟩
    rw [e1, e2]
    have := hasI (pdA a b p q) (pdB a b p q) (x * y) w0
    have f : (isIv (pdA a b p q) (pdB a b p q) && inB (x * y) (pdA a b p q) (pdB a b p q)) = true := by
      unfold isIv
      rw [isV_mk (by omega), isV_mk (by omega), inB_mk hle, decide_eq_true (by omega)]
      rfl
    rw [f] at this
    exact this
  · left; exact hc
theorem quo_abs (a b p q : Int) (ha : I64 a) (hb : I64 b) (hp : I64 p) (hq : I64 q) : ∃ l h k : Int, (∀ w0 : World, Calls Try.prog 43 #[.agg #[.int .i64 a, .int .i64 b], .agg #[.int .i64 p, .int .i64 q]] w0 fun o w' => o = .returned (.tuple #[.agg #[.int .i64 l, .int .i64 h], .int .i64 k]) ∧ Below w0.heap.size w0 w') ∧ (∀ w0 : World, Calls Try.prog 44 #[.agg #[.int .i64 a, .int .i64 b], .agg #[.int .i64 p, .int .i64 q]] w0 fun o w' => o = .returned (.tuple #[.agg #[.int .i64 l, .int .i64 h], .int .i64 k]) ∧ Below w0.heap.size w0 w') ∧
    (¬ k = 0 ∨ k = 0 ∧ ((-1000000000000 ≤ a ∧ a ≤ b ∧ b ≤ 1000000000000) ∧ -1000000000000 ≤ p ∧ p ≤ q ∧ q ≤ 1000000000000) ∧
      ∀ x y : Int, a ≤ x → x ≤ b → p ≤ y → y ≤ q → ∃ lo hi : Int, (l ≤ lo ∧ hi ≤ h) ∧ ∀ w0 : World, Calls Try.prog 45 #[.int .i64 x, .int .i64 y] w0 fun o w' => o = .returned (.tuple #[.int .i64 lo, .int .i64 hi, .int .i64 0]) ∧ w0 = w') := by
  refine ⟨qnL a b p q, qnH a b p q, qnC a b p q, fun w0 => quoI a b p q ha.out hb.out hp.out hq.out w0, fun w0 => quoS a b p q w0, ?_⟩
  by_cases hc : qnC a b p q = 0
  · right
    have hiv : iv2 a b p q = true := by
      rcases hk : iv2 a b p q
      · simp [qnC, hk] at hc
      · rfl
    have hz : qnZ p q = false := by
      rcases hk : qnZ p q
      · rfl
      · simp [qnC, hiv, hk] at hc
    have hok : qnOk a b p q = true := by simp [qnOk, hiv, hz]
    have hi2 : isIv a b = true ∧ isIv p q = true := by simpa [iv2] using hiv
    have b1 := isIv_bdp hi2.1
    have b2 := isIv_bdp hi2.2
    have hz2 : 0 < p ∨ q < 0 := by
      have := hz
      simp only [qnZ, Bool.and_eq_false_iff, decide_eq_false_iff_not] at this
      omega
    refine ⟨hc, ⟨by omega, by omega⟩, fun x y h1 h2 h3 h4 => ⟨flo x y, cel x y, ?_, fun w0 => ?_⟩⟩
    · have := quo_law hz2 h1 h2 h3 h4
      unfold qnL qnH
      rw [if_pos hok, if_pos hok]
      exact this
    · have hqc : qc x y = 0 := by
        unfold qc
        rw [isV_mk (by omega), isV_mk (by omega)]
        simp only [Bool.and_self, if_true]
        exact if_neg (by omega)
      have := qbI x y w0
      have e1 : qbLo x y = flo x y := by simp [qbLo, hqc]
      have e2 : qbHi x y = cel x y := by simp [qbHi, hqc]
      rw [e1, e2, hqc] at this
      exact this
  · left; exact hc
end Go.Proofs.Ytincelkcbdjcjaa
