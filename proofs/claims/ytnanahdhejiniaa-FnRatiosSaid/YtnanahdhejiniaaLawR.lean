/- Plain laws on fractions in lowest terms. No program in sight. -/
import Derived.Test.YtnanahdhejiniaaRatOps
namespace Go.Proofs.Ytnanahdhejiniaa
set_option linter.unusedVariables false

theorem can_of {n d : Int} (hd : ¬ d = 0) : pN n d * d = n * pD n d ∧ 0 < pD n d ∧ Int.gcd (pN n d) (pD n d) = 1 := by
  have hg : 0 < Int.gcd n d := Nat.pos_of_ne_zero (fun h => hd (Int.gcd_eq_zero_iff.1 h).2)
  obtain ⟨x, hx⟩ := Int.gcd_dvd_left n d
  obtain ⟨y, hy⟩ := Int.gcd_dvd_right n d
  have h1 : n.tdiv (Int.gcd n d) = x := by
    rw [Int.tdiv_eq_ediv_of_dvd (Int.gcd_dvd_left n d)]
    exact Int.ediv_eq_of_eq_mul_right (by omega) hx
  have h2 : d.tdiv (Int.gcd n d) = y := by
    rw [Int.tdiv_eq_ediv_of_dvd (Int.gcd_dvd_right n d)]
    exact Int.ediv_eq_of_eq_mul_right (by omega) hy
  have h3 : d / (Int.gcd n d) = y := Int.ediv_eq_of_eq_mul_right (by omega) hy
  have hc : Int.gcd x y = 1 := by
    have := Int.gcd_ediv_gcd_ediv_gcd hg
    rw [h3, Int.ediv_eq_of_eq_mul_right (by omega) hx] at this
    exact this
  unfold pN pD
  rw [h1, h2, h3]
  have hg0 : (0 : Int) < (Int.gcd n d : Int) := by omega
  clear h1 h2 h3 hg
  generalize (Int.gcd n d : Int) = g at *
  have key : x * d = n * y := by rw [hx, hy, Int.mul_left_comm, Int.mul_assoc]
  by_cases h : d < 0
  · rw [if_pos h, if_pos h]
    have hy0 : y < 0 := by
      rcases Int.lt_or_le y 0 with k | k
      · exact k
      · have := Int.mul_nonneg (show 0 ≤ g by omega) k; omega
    refine ⟨by rw [Int.neg_mul, Int.mul_neg, key], by omega, ?_⟩
    rw [Int.neg_gcd, Int.gcd_neg]; exact hc
  · rw [if_neg h, if_neg h]
    refine ⟨key, ?_, hc⟩
    rcases Int.lt_or_le 0 y with k | k
    · exact k
    · have := Int.mul_nonneg (show 0 ≤ g by omega) (show 0 ≤ -y by omega)
      rw [Int.mul_neg] at this
      omega

theorem dvd_cop {k m n : Int} (h : Int.gcd k m = 1) (e : k ∣ m * n) : k ∣ n := by
  rw [← Int.natAbs_dvd_natAbs] at e ⊢
  rw [Int.natAbs_mul] at e
  exact Nat.Coprime.dvd_of_dvd_mul_left h e
theorem low_uniq {p q p' q' : Int} (h : Int.gcd p q = 1) (h' : Int.gcd p' q' = 1) (hq : 0 < q) (hq' : 0 < q') (e : p * q' = p' * q) : p = p' ∧ q = q' := by
  have d1 : q ∣ q' := by
    have : q ∣ p * q' := ⟨p', by rw [e, Int.mul_comm]⟩
    exact dvd_cop (by rw [Int.gcd_comm]; exact h) this
  have d2 : q' ∣ q := by
    have : q' ∣ p' * q := ⟨p, by rw [← e, Int.mul_comm]⟩
    exact dvd_cop (by rw [Int.gcd_comm]; exact h') this
  have hqq : q = q' := Int.le_antisymm (Int.le_of_dvd hq' d1) (Int.le_of_dvd hq d2)
  subst hqq
  exact ⟨Int.eq_of_mul_eq_mul_right (by omega) e, rfl⟩
theorem mk_canon {n d p q : Int} (hd : ¬ d = 0) (h : Int.gcd p q = 1) (hq : 0 < q) (e : n * q = p * d) : pN n d = p ∧ pD n d = q := by
  obtain ⟨c1, c2, c3⟩ := can_of (n := n) hd
  refine low_uniq c3 h c2 hq ?_
  have : pN n d * q * d = p * pD n d * d := by
    calc pN n d * q * d = pN n d * d * q := by rw [Int.mul_assoc, Int.mul_comm q d, ← Int.mul_assoc]
      _ = n * pD n d * q := by rw [c1]
      _ = n * q * pD n d := by rw [Int.mul_assoc, Int.mul_comm (pD n d) q, ← Int.mul_assoc]
      _ = p * d * pD n d := by rw [e]
      _ = p * pD n d * d := by rw [Int.mul_assoc, Int.mul_comm d, ← Int.mul_assoc]
  exact Int.eq_of_mul_eq_mul_right hd this
theorem cmp_scale {x y u v D k : Int} (hD : 0 < D) (hk : 0 < k) (e : (x - y) * D = k * (u - v)) : cmpP x y = cmpP u v := by
  have key : ∀ {a b : Int}, 0 < b → ((0 < a * b ↔ 0 < a) ∧ (a * b < 0 ↔ a < 0)) := by
    intro a b hb
    refine ⟨⟨fun h => ?_, fun h => Int.mul_pos h hb⟩, ⟨fun h => ?_, fun h => Int.mul_neg_of_neg_of_pos h hb⟩⟩
    · rcases Int.lt_or_le 0 a with k | k
      · exact k
      · have := Int.mul_nonneg (show 0 ≤ -a by omega) (show 0 ≤ b by omega); rw [Int.neg_mul] at this; omega
    · rcases Int.lt_or_le a 0 with k | k
      · exact k
      · have := Int.mul_nonneg k (show 0 ≤ b by omega); omega
  have h1 := key (a := x - y) hD
  have h2 := key (a := u - v) hk
  rw [e, Int.mul_comm k] at h1
  have a1 := h1.1.symm.trans h2.1
  have a2 := h1.2.symm.trans h2.2
  unfold cmpP
  by_cases c1 : x < y
  · rw [if_pos c1, if_pos (by have := a2.1 (by omega); omega)]
  · by_cases c2 : y < x
    · have := a1.1 (by omega)
      rw [if_neg c1, if_pos c2, if_neg (by omega), if_pos (by omega)]
    · rw [if_neg c1, if_neg c2, if_neg (by intro h; have := a2.2 (by omega); omega), if_neg (by intro h; have := a1.2 (by omega); omega)]
theorem med_cmp {a b c d : Int} (hb : 0 < b) (hd : 0 < d) : cmpP (a * pD (a + c) (b + d)) (pN (a + c) (b + d) * b) = cmpP (a * d) (c * b) ∧ cmpP (pN (a + c) (b + d) * d) (c * pD (a + c) (b + d)) = cmpP (a * d) (c * b) := by
  obtain ⟨c1, c2, _⟩ := can_of (n := a + c) (d := b + d) (by omega)
  generalize pN (a + c) (b + d) = m at *
  generalize pD (a + c) (b + d) = k at *
  have e0 : m * b + m * d = a * k + c * k := by rw [← Int.mul_add, c1, Int.add_mul]
  constructor
  · refine cmp_scale (D := b + d) (k := k) (by omega) c2 ?_
    have : (a * k - m * b) * (b + d) = a * k * (b + d) - (m * (b + d)) * b := by rw [Int.sub_mul, Int.mul_right_comm m b]
    rw [this, c1]
    simp only [Int.mul_add, Int.add_mul, Int.mul_sub, Int.mul_assoc, Int.mul_comm, Int.mul_left_comm]
    omega
  · refine cmp_scale (D := b + d) (k := k) (by omega) c2 ?_
    have : (m * d - c * k) * (b + d) = (m * (b + d)) * d - c * k * (b + d) := by rw [Int.sub_mul, Int.mul_right_comm m d]
    rw [this, c1]
    simp only [Int.mul_add, Int.add_mul, Int.mul_sub, Int.mul_assoc, Int.mul_comm, Int.mul_left_comm]
    omega
theorem inv_inv {n d : Int} (hn : ¬ n = 0) (hd : 0 < d) (h : Int.gcd n d = 1) : ¬ pN d n = 0 ∧ pN (pD d n) (pN d n) = n ∧ pD (pD d n) (pN d n) = d := by
  obtain ⟨c1, c2, c3⟩ := can_of (n := d) hn
  have hz : ¬ pN d n = 0 := by
    intro e
    rw [e, Int.zero_mul] at c1
    have := Int.mul_pos hd c2
    omega
  refine ⟨hz, mk_canon hz h hd ?_⟩
  rw [Int.mul_comm _ d, ← c1, Int.mul_comm]
theorem mul_inv {n d : Int} (hn : ¬ n = 0) (hd : 0 < d) : ¬ d * pD d n = 0 ∧ pN (n * pN d n) (d * pD d n) = 1 ∧ pD (n * pN d n) (d * pD d n) = 1 := by
  obtain ⟨c1, c2, c3⟩ := can_of (n := d) hn
  have := Int.mul_pos hd c2
  refine ⟨by omega, mk_canon (by omega) rfl (by omega) ?_⟩
  rw [Int.mul_one, Int.one_mul, ← c1, Int.mul_comm]
theorem add_back {a b c d : Int} (hb : 0 < b) (hd : 0 < d) (h : Int.gcd a b = 1) :
    ¬ pD (a * d + c * b) (b * d) * d = 0 ∧ pN (pN (a * d + c * b) (b * d) * d + -c * pD (a * d + c * b) (b * d)) (pD (a * d + c * b) (b * d) * d) = a ∧ pD (pN (a * d + c * b) (b * d) * d + -c * pD (a * d + c * b) (b * d)) (pD (a * d + c * b) (b * d) * d) = b := by
  have hbd := Int.mul_pos hb hd
  obtain ⟨c1, c2, _⟩ := can_of (n := a * d + c * b) (d := b * d) (by omega)
  generalize pN (a * d + c * b) (b * d) = m at *
  generalize pD (a * d + c * b) (b * d) = k at *
  have := Int.mul_pos c2 hd
  refine ⟨by omega, mk_canon (by omega) h hb ?_⟩
  have e1 : (m * d + -c * k) * b = m * (b * d) - c * k * b := by rw [Int.add_mul, Int.neg_mul, Int.neg_mul, Int.mul_assoc m d b, Int.mul_comm d b]; omega
  rw [e1, c1]
  simp only [Int.mul_add, Int.add_mul, Int.mul_sub, Int.mul_assoc, Int.mul_comm, Int.mul_left_comm]
  omega

end Go.Proofs.Ytnanahdhejiniaa
