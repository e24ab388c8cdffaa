/- Plain laws on divisors and quotients. No program in sight. -/
import Derived.Test.YtnanahdhejiniaaNear
namespace Go.Proofs.Ytnanahdhejiniaa
set_option linter.unusedVariables false

/-! FnDivisors -/
theorem gcd_zero_l {a b : Int} (h : Int.gcd a b = 0) : a = 0 ∧ b = 0 := Int.gcd_eq_zero_iff.1 h
theorem gcd_tmod_l (a b : Int) : a.tmod (Int.gcd a b) = 0 ∧ b.tmod (Int.gcd a b) = 0 :=
  ⟨Int.tmod_eq_zero_of_dvd (Int.gcd_dvd_left a b), Int.tmod_eq_zero_of_dvd (Int.gcd_dvd_right a b)⟩
theorem gcd_tdiv_l {a b : Int} (h : Int.gcd a b ≠ 0) : Int.gcd (a.tdiv (Int.gcd a b)) (b.tdiv (Int.gcd a b)) = 1 := by
  have ha := Int.gcd_dvd_left a b
  have hb := Int.gcd_dvd_right a b
  rw [Int.tdiv_eq_ediv_of_dvd ha, Int.tdiv_eq_ediv_of_dvd hb]
  exact Int.gcd_ediv_gcd_ediv_gcd (by omega)
/-! FnQuotients -/
theorem quo_pos {a b : Int} (hb : 0 < b) : (cel a b - flo a b = 0 ∧ a.tmod b = 0 ∧ flo a b * b = a ∧ nrst a b = flo a b) ∨ (cel a b - flo a b = 1 ∧ a.tmod b ≠ 0 ∧ flo a b * b < a ∧ a < cel a b * b ∧ (nrst a b = flo a b ∨ nrst a b = cel a b)) := by
  have h1 := flo_pos (a := a) hb
  have h2 := flo_pos (a := -a) hb
  have hz : a.tmod b = 0 ↔ flo a b * b = a := by
    constructor
    · intro h
      obtain ⟨k, hk⟩ := Int.dvd_of_tmod_eq_zero h
      unfold flo
      rw [if_neg (by omega), hk, Int.mul_ediv_cancel_left _ (by omega), Int.mul_comm]
    · intro h
      exact Int.tmod_eq_zero_of_dvd ⟨flo a b, by rw [Int.mul_comm]; exact h.symm⟩
  unfold cel nrst
  obtain ⟨p, hp⟩ : ∃ p, flo a b = p := ⟨_, rfl⟩
  obtain ⟨q, hq⟩ : ∃ q, flo (-a) b = q := ⟨_, rfl⟩
  rw [hp] at h1 hz ⊢
  rw [hq] at h2 ⊢
  -- p b ≤ a < p b + b ; q b ≤ -a < q b + b
  by_cases e : p * b = a
  · have hpq : q = -p := by
      have k1 : (q + p) * b ≤ 0 := by rw [Int.add_mul]; omega
      have k2 : -b < (q + p) * b := by rw [Int.add_mul]; omega
      have : q + p ≤ 0 := by
        rcases Int.lt_or_le 0 (q + p) with h | h
        · have := Int.mul_pos h hb; omega
        · exact h
      have : 0 ≤ q + p := by
        rcases Int.lt_or_le (q + p) 0 with h | h
        · have := Int.mul_le_mul_of_nonneg_right (show q + p ≤ -1 by omega) (show 0 ≤ b by omega)
          omega
        · exact h
      omega
    left
    refine ⟨by omega, hz.2 e, e, ?_⟩
    rw [if_neg (by rw [e]; omega)]
  · have hpq : q = -p - 1 := by
      have k1 : (q + p) * b < 0 := by rw [Int.add_mul]; omega
      have k2 : -(2 * b) < (q + p) * b := by rw [Int.add_mul]; omega
      have : q + p < 0 := by
        rcases Int.lt_or_le (q + p) 0 with h | h
        · exact h
        · have := Int.mul_nonneg h (show 0 ≤ b by omega); omega
      have : -2 < q + p := by
        rcases Int.lt_or_le (-2) (q + p) with h | h
        · exact h
        · have := Int.mul_le_mul_of_nonneg_right h (show 0 ≤ b by omega); omega
      omega
    right
    refine ⟨by omega, fun h => e (hz.1 h), by omega, ?_, ?_⟩
    · have : -q * b = p * b + b := by rw [hpq]; have : -(-p - 1) = p + 1 := by omega
                                      rw [this, Int.add_mul]; omega
      omega
    · split
      · right; omega
      · left; rfl

end Go.Proofs.Ytnanahdhejiniaa
