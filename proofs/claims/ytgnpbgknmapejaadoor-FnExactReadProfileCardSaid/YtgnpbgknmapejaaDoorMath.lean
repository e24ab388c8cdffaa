/- Plain mathematics for this seat: ranges, quotients rounded down and up, the greatest common divisor, integer square roots. No program in sight. -/
import Derived.WalkKit
namespace Go.Proofs.YtgnpbgknmapejaaDoor

/-! ### ranges -/
def inB (x l h : Int) : Bool := decide (l ≤ x ∧ x ≤ h)
theorem inB_t {x l h : Int} (e : inB x l h = true) : l ≤ x ∧ x ≤ h := by simpa [inB] using e
theorem inB_f {x l h : Int} (e : inB x l h = false) : ¬ (l ≤ x ∧ x ≤ h) := by simpa [inB] using e
theorem inB_mk {x l h : Int} (e : l ≤ x ∧ x ≤ h) : inB x l h = true := by simpa [inB] using e
theorem inB_no {x l h : Int} (e : ¬ (l ≤ x ∧ x ≤ h)) : inB x l h = false := by simpa [inB] using e
def isV (x : Int) : Bool := inB x (-1000000000000) 1000000000000
theorem isV_t {x : Int} (e : isV x = true) : -1000000000000 ≤ x ∧ x ≤ 1000000000000 := inB_t e
theorem isV_f {x : Int} (e : isV x = false) : ¬ (-1000000000000 ≤ x ∧ x ≤ 1000000000000) := inB_f e
theorem isV_mk {x : Int} (e : -1000000000000 ≤ x ∧ x ≤ 1000000000000) : isV x = true := inB_mk e

/-- what an int64 holds -/
theorem wfB {n : Int} (h : (Lit.int .i64 n).wf = true) : -9223372036854775808 ≤ n ∧ n ≤ 9223372036854775807 := by
  simpa [Lit.wf, IntKind.min, IntKind.max, IntKind.signed, IntKind.bits] using h

/-- the absolute value, shut to simp -/
def iabs (x : Int) : Int := x.natAbs
theorem iabs_bd (x : Int) : 0 ≤ iabs x ∧ (x ≤ iabs x ∧ -x ≤ iabs x) ∧ (iabs x = x ∨ iabs x = -x) := by unfold iabs; omega

/-! ### quotients -/
def flo (a b : Int) : Int := if b < 0 then (-a) / (-b) else a / b
def cel (a b : Int) : Int := -flo (-a) b

theorem ediv_uniq {a b q : Int} (hb : 0 < b) (h1 : q * b ≤ a) (h2 : a < q * b + b) : a / b = q := by
  have e1 : q ≤ a / b := (Int.le_ediv_iff_mul_le hb).2 h1
  have e2 : a / b < q + 1 := (Int.ediv_lt_iff_lt_mul hb).2 (by rw [Int.add_mul]; omega)
  omega

theorem flo_pos {a b : Int} (hb : 0 < b) : flo a b * b ≤ a ∧ a < flo a b * b + b := by
  unfold flo
  rw [if_neg (by omega)]
  have h := Int.emod_add_mul_ediv a b
  have h1 := Int.emod_nonneg a (show b ≠ 0 by omega)
  have h2 := Int.emod_lt_of_pos a hb
  rw [Int.mul_comm] at h
  omega

theorem flo_neg (a b : Int) (hb : b < 0) : flo a b = flo (-a) (-b) := by
  unfold flo
  rw [if_pos hb, if_neg (by omega)]

theorem tdiv_abs (a b : Int) : -(a.natAbs : Int) ≤ a.tdiv b ∧ a.tdiv b ≤ a.natAbs := by
  have h : (a.tdiv b).natAbs ≤ a.natAbs := by rw [Int.natAbs_tdiv]; exact Nat.div_le_self _ _
  omega

/-- What Go's text reckons: the quotient cut towards nought, less one where it was cut upwards. -/
def goFlo (a b : Int) : Int := if a.tmod b ≠ 0 ∧ ((a < 0 ∧ ¬ b < 0) ∨ (¬ a < 0 ∧ b < 0)) then a.tdiv b - 1 else a.tdiv b

theorem goFlo_eq (a b : Int) (hb : b ≠ 0) : goFlo a b = flo a b := by
  have key : ∀ a b : Int, 0 < b → goFlo a b = flo a b := by
    intro a b hb
    have h := Int.tmod_add_mul_tdiv a b
    have h0 : (a.tmod b).natAbs < b.natAbs := by rw [Int.natAbs_tmod]; exact Nat.mod_lt _ (by omega)
    have hs : 0 ≤ a → 0 ≤ a.tmod b := fun h => Int.tmod_nonneg b h
    have hs' : a ≤ 0 → a.tmod b ≤ 0 := fun h => by
      have := Int.tmod_nonneg b (show 0 ≤ -a by omega)
      rw [Int.neg_tmod] at this
      omega
    rw [Int.mul_comm] at h
    symm
    unfold flo
    rw [if_neg (by omega)]
    refine ediv_uniq hb ?_ ?_
    · unfold goFlo
      split
      · rw [Int.sub_mul]; omega
      · rename_i hc
        omega
    · unfold goFlo
      split
      · rw [Int.sub_mul]; omega
      · omega
  by_cases h : 0 < b
  · exact key a b h
  · rw [flo_neg a b (by omega), ← key (-a) (-b) (by omega)]
    unfold goFlo
    rw [Int.neg_tmod, Int.tmod_neg, Int.neg_tdiv, Int.tdiv_neg, Int.neg_neg]
    by_cases hz : a.tmod b = 0
    · simp [hz]
    · have ha : a ≠ 0 := by intro e; subst e; simp at hz
      by_cases hn : a < 0
      · rw [if_neg (by omega), if_neg (by omega)]
      · rw [if_pos ⟨hz, by omega⟩, if_pos ⟨by omega, by omega⟩]

theorem flo_bd {a b : Int} (hb : b ≠ 0) : -(a.natAbs : Int) - 1 ≤ flo a b ∧ flo a b ≤ a.natAbs := by
  rw [← goFlo_eq a b hb]
  have := tdiv_abs a b
  unfold goFlo
  split <;> omega

/-! ### the greatest common divisor -/
theorem gcd_step (a b : Int) : Int.gcd b (a.tmod b) = Int.gcd a b := by
  simp only [Int.gcd, Int.natAbs_tmod]
  rw [Nat.gcd_comm a.natAbs, Nat.gcd_rec b.natAbs a.natAbs, Nat.gcd_comm]

/-! ### integer square roots -/
def IsRoot (n r : Int) : Prop := 0 ≤ r ∧ r * r ≤ n ∧ n < (r + 1) * (r + 1)
theorem IsRoot.uniq {n r s : Int} (h : IsRoot n r) (k : IsRoot n s) : r = s := by
  obtain ⟨a0, a1, a2⟩ := h
  obtain ⟨b0, b1, b2⟩ := k
  rcases Int.lt_trichotomy r s with h | h | h
  · have := Int.mul_le_mul (show r + 1 ≤ s by omega) (show r + 1 ≤ s by omega) (by omega) b0
    omega
  · exact h
  · have := Int.mul_le_mul (show s + 1 ≤ r by omega) (show s + 1 ≤ r by omega) (by omega) a0
    omega
noncomputable def rt (n : Int) : Int := @Classical.epsilon Int ⟨0⟩ (IsRoot n)
theorem rt_of {n r : Int} (h : IsRoot n r) : r = rt n := h.uniq (Classical.epsilon_spec (p := IsRoot n) ⟨r, h⟩)
theorem sq_le {r s : Int} (h0 : 0 ≤ r) (h : r ≤ s) : r * r ≤ s * s := Int.mul_le_mul h h h0 (by omega)
theorem sq_bd {r : Int} (h0 : 0 ≤ r) (h : r ≤ 2000000001) : 0 ≤ r * r ∧ r * r ≤ 4000000004000000001 := by
  have := sq_le h0 h
  have h1 := Int.mul_nonneg h0 h0
  omega
theorem root_ex (k : Nat) : ∃ r : Int, IsRoot (k : Int) r := by
  induction k with
  | zero => exact ⟨0, by unfold IsRoot; omega⟩
  | succ k ih =>
    obtain ⟨r, h0, h1, h2⟩ := ih
    by_cases h : ((k + 1 : Nat) : Int) < (r + 1) * (r + 1)
    · exact ⟨r, h0, by omega, h⟩
    · refine ⟨r + 1, by omega, by omega, ?_⟩
      have e : (r + 1 + 1) * (r + 1 + 1) = (r + 1) * (r + 1) + (r + 1) + (r + 1) + 1 := by
        rw [Int.mul_add, Int.add_mul (r + 1) 1]; omega
      rw [e]
      omega
theorem rt_spec {n : Int} (h0 : 0 ≤ n) (_h1 : n ≤ 4000000000000000000) : IsRoot n (rt n) := by
  obtain ⟨k, rfl⟩ := Int.eq_ofNat_of_zero_le h0
  exact Classical.epsilon_spec (p := IsRoot (k : Int)) (root_ex k)
theorem rt_le {n : Int} (h0 : 0 ≤ n) (h1 : n ≤ 4000000000000000000) : rt n ≤ 2000000000 := by
  obtain ⟨a, b, _⟩ := rt_spec h0 h1
  rcases Int.lt_or_le 2000000000 (rt n) with h | h
  · have := sq_le (r := 2000000001) (s := rt n) (by omega) (by omega)
    omega
  · exact h
noncomputable def rtUp (n : Int) : Int := if rt n * rt n < n then rt n + 1 else rt n
end Go.Proofs.YtgnpbgknmapejaaDoor
