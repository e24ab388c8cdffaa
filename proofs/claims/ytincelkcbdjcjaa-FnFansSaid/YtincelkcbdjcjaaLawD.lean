/- Plain laws on directions. No program in sight. -/
import Derived.Test.YtincelkcbdjcjaaMkDir
namespace Go.Proofs.Ytincelkcbdjcjaa
set_option linter.unusedVariables false

theorem mk_dir {m n : Int} (h : dOk m n = true) : ∃ g : Int, 0 < g ∧ dC m n * g = n * n - m * m ∧ dH m n * g = n * n + m * m ∧ (∀ b : Bool, dS m n b * g = if b then 2 * m * n else -(2 * m * n)) ∧ (1 ≤ dC m n ∧ dC m n ≤ 1000) ∧ (1 ≤ dH m n ∧ dH m n ≤ 1000) ∧
    (∀ b : Bool, (1 ≤ (if b then dS m n b else -dS m n b)) ∧ (if b then dS m n b else -dS m n b) ≤ 1000) ∧ ∀ b : Bool, isDir (dC m n) (dS m n b) (dH m n) = true := by
  obtain ⟨bn, bm, bs⟩ := dOk_bd h
  have s1 : m * m < n * n := by
    have := Int.mul_lt_mul (show m < n by omega) (show m ≤ n by omega) (by omega) (by omega)
    exact this
  have s2 : 0 < 2 * m * n := Int.mul_pos (by omega) (by omega)
  have s3 : 2 * m * n ≤ n * n + m * m := by
    have := Int.mul_nonneg (show 0 ≤ n - m by omega) (show 0 ≤ n - m by omega)
    have e : (n - m) * (n - m) = n * n + m * m - 2 * m * n := by
      rw [Int.sub_mul, Int.mul_sub, Int.mul_sub, Int.mul_comm n m, Int.mul_assoc 2 m n]; omega
    omega
  have s4 : 0 < m * m := Int.mul_pos (by omega) (by omega)
  have py : (n * n - m * m) * (n * n - m * m) + (2 * m * n) * (2 * m * n) = (n * n + m * m) * (n * n + m * m) := by
    have e : (2 * m * n) * (2 * m * n) = 4 * ((n * n) * (m * m)) := by
      have : (2 * m * n) * (2 * m * n) = (2 * 2) * ((m * m) * (n * n)) := by simp only [Int.mul_assoc, Int.mul_comm, Int.mul_left_comm]
      rw [this, Int.mul_comm (m * m)]; omega
    rw [e]
    generalize n * n = p
    generalize m * m = q
    rw [Int.sub_mul, Int.mul_sub, Int.mul_sub, Int.add_mul, Int.mul_add, Int.mul_add, Int.mul_comm q p]
    omega
  have hg : 0 < Int.gcd (Int.gcd (n * n - m * m) (2 * m * n)) (n * n + m * m) := Nat.pos_of_ne_zero (fun e => by have := (Int.gcd_eq_zero_iff.1 e).2; omega)
  have d3 : (dG m n) ∣ (n * n + m * m) := Int.gcd_dvd_right _ _
  have d0 : (dG m n) ∣ ((Int.gcd (n * n - m * m) (2 * m * n) : Nat) : Int) := Int.gcd_dvd_left _ _
  have d1 : (dG m n) ∣ (n * n - m * m) := Int.dvd_trans d0 (Int.gcd_dvd_left _ _)
  have d2 : (dG m n) ∣ (2 * m * n) := Int.dvd_trans d0 (Int.gcd_dvd_right _ _)
  have hg0 : 0 < dG m n := by unfold dG; omega
  have gc : Int.gcd (Int.gcd ((n * n - m * m).tdiv (dG m n)) ((2 * m * n).tdiv (dG m n))) ((n * n + m * m).tdiv (dG m n)) = 1 := by
    rw [Int.tdiv_eq_ediv_of_dvd d1, Int.tdiv_eq_ediv_of_dvd d2, Int.tdiv_eq_ediv_of_dvd d3]
    rw [Int.gcd_ediv d1 d2]
    have e1 : ((((n * n - m * m).gcd (2 * m * n)) / (dG m n).natAbs : Nat) : Int) = ((n * n - m * m).gcd (2 * m * n) : Int) / dG m n := by
      rw [Int.natCast_ediv]
      congr 1
    rw [e1, Int.gcd_ediv d0 d3]
    have : (dG m n).natAbs = Int.gcd (Int.gcd (n * n - m * m) (2 * m * n)) (n * n + m * m) := rfl
    rw [this]
    exact Nat.div_self hg
  obtain ⟨x, hx⟩ := d1
  obtain ⟨y, hy⟩ := d2
  obtain ⟨z, hz⟩ := d3
  have ex : (n * n - m * m).tdiv (dG m n) = x := by rw [hx]; exact Int.mul_tdiv_cancel_left _ (by omega)
  have ey : (2 * m * n).tdiv (dG m n) = y := by rw [hy]; exact Int.mul_tdiv_cancel_left _ (by omega)
  have ez : (n * n + m * m).tdiv (dG m n) = z := by rw [hz]; exact Int.mul_tdiv_cancel_left _ (by omega)
  rw [ex, ey, ez] at gc
  have cx : dC m n = x := ex
  have cz : dH m n = z := ez
  have cy : ∀ b : Bool, dS m n b = if b then y else -y := fun b => by unfold dS; rw [ey]
  generalize dG m n = g at *
  have pos : ∀ {t v : Int}, 0 < v → v = g * t → 0 < t ∧ t ≤ v := by
    intro t v hv e
    have ht : 0 < t := by
      rcases Int.lt_or_le 0 t with k | k
      · exact k
      · have := Int.mul_nonneg (show 0 ≤ g by omega) (show 0 ≤ -t by omega); rw [Int.mul_neg] at this; omega
    refine ⟨ht, ?_⟩
    have := Int.mul_le_mul_of_nonneg_right (show 1 ≤ g by omega) (show 0 ≤ t by omega)
    omega
  obtain ⟨x0, x1⟩ := pos (by omega) hx
  obtain ⟨y0, y1⟩ := pos s2 hy
  obtain ⟨z0, z1⟩ := pos (by omega) hz
  have pyt : x * x + y * y = z * z := by
    rw [hx, hy, hz] at py
    have e : ∀ t : Int, (g * t) * (g * t) = (g * g) * (t * t) := fun t => by simp only [Int.mul_assoc, Int.mul_left_comm]
    rw [e, e, e, ← Int.mul_add] at py
    have hgg : g * g ≠ 0 := by have := Int.mul_pos hg0 hg0; omega
    exact Int.eq_of_mul_eq_mul_left hgg py
  refine ⟨g, hg0, by rw [cx, hx, Int.mul_comm], by rw [cz, hz, Int.mul_comm], fun b => ?_, by rw [cx]; omega, by rw [cz]; omega, fun b => ?_, fun b => ?_⟩
  · rw [cy, hy]; cases b
    · simp only [Bool.false_eq_true, if_false]; rw [Int.neg_mul, Int.mul_comm]
    · simp only [if_true]; rw [Int.mul_comm]
  · rw [cy]; cases b
    · simp; omega
    · simp; omega
  · rw [cx, cz, cy]
    unfold isDir
    have e1 : (Int.gcd (Int.gcd x (if b then y else -y)) z : Int) = 1 := by
      cases b
      · simp only [Bool.false_eq_true, if_false, Int.gcd_neg]; omega
      · simp only [if_true]; omega
    have e2 : (if b then y else -y) * (if b then y else -y) = y * y := by
      cases b
      · simp only [Bool.false_eq_true, if_false]; exact Int.neg_mul_neg y y
      · simp only [if_true]
    have e3 : -1000 ≤ (if b then y else -y) ∧ (if b then y else -y) ≤ 1000 := by cases b <;> simp <;> omega
    have e4 : (if b then y else -y) ≠ 0 := by cases b <;> simp <;> omega
    rw [e1, e2, pyt, inB_mk (by omega), inB_mk (by omega), inB_mk e3]
    simp [e4]
theorem steeper {m n : Int} (h : dOk m n = true) (h' : dOk (m + 1) n = true) : cmpP (dC m n * dH (m + 1) n) (dC (m + 1) n * dH m n) = 1 := by
  obtain ⟨g, g0, c1, c2, _⟩ := mk_dir h
  obtain ⟨k, k0, e1, e2, _⟩ := mk_dir h'
  obtain ⟨bn, bm, bs⟩ := dOk_bd h
  have gk := Int.mul_pos g0 k0
  have key : dC (m + 1) n * dH m n < dC m n * dH (m + 1) n := by
    have a1 : (dC m n * dH (m + 1) n) * (g * k) = (n * n - m * m) * (n * n + (m + 1) * (m + 1)) := by
      rw [← c1, ← e2]; simp only [Int.mul_assoc, Int.mul_comm, Int.mul_left_comm]
    have a2 : (dC (m + 1) n * dH m n) * (g * k) = (n * n - (m + 1) * (m + 1)) * (n * n + m * m) := by
      rw [← c2, ← e1]; simp only [Int.mul_assoc, Int.mul_comm, Int.mul_left_comm]
    have hn : 0 < n * n := Int.mul_pos (by omega) (by omega)
    have hm : m * m < (m + 1) * (m + 1) := by rw [Int.add_mul, Int.mul_add]; omega
    have a3 : (n * n - (m + 1) * (m + 1)) * (n * n + m * m) < (n * n - m * m) * (n * n + (m + 1) * (m + 1)) := by
      generalize n * n = p at *
      generalize m * m = q at *
      generalize (m + 1) * (m + 1) = r at *
      have := Int.mul_pos hn (show 0 < r - q by omega)
      rw [Int.mul_sub] at this
      rw [Int.sub_mul, Int.sub_mul, Int.mul_add, Int.mul_add, Int.mul_add, Int.mul_add, Int.mul_comm r p, Int.mul_comm r q, Int.mul_comm q p]
      omega
    rcases Int.lt_or_le (dC (m + 1) n * dH m n) (dC m n * dH (m + 1) n) with t | t
    · exact t
    · have := Int.mul_le_mul_of_nonneg_right t (show 0 ≤ g * k by omega)
      omega
  unfold cmpP
  rw [if_neg (by omega), if_pos key]

end Go.Proofs.Ytincelkcbdjcjaa
