/- Plain laws on intervals. No program in sight. -/
import Derived.Test.YtincelkcbdjcjaaProd
namespace Go.Proofs.Ytincelkcbdjcjaa
set_option linter.unusedVariables false

/-! FnIntervalSets -/
theorem meet_law {a b c d k : Int} (h : iv2 a b c d = true) (hk : a ≤ k ∧ k ≤ b) :
    (decide (mtC a b c d = 0) && (isIv (mtL a b c d) (mtH a b c d) && inB k (mtL a b c d) (mtH a b c d))) = (isIv c d && inB k c d) := by
  have h0 := h
  simp only [iv2, isIv, Bool.and_eq_true, decide_eq_true_eq] at h
  obtain ⟨⟨⟨va, vb⟩, hab⟩, ⟨vc, vd⟩, hcd⟩ := h
  have ba := inB_t va
  have bb := inB_t vb
  have bc := inB_t vc
  have bd := inB_t vd
  have e1 : isIv c d = true := by simp [isIv, vc, vd, hcd]
  by_cases hm : maxV a c ≤ minV b d
  · have ok : mtOk a b c d = true := by simp [mtOk, h0, hm]
    have e2 : mtC a b c d = 0 := by simp [mtC, h0, hm]
    have e3 : mtL a b c d = maxV a c := by simp [mtL, ok]
    have e4 : mtH a b c d = minV b d := by simp [mtH, ok]
    have e5 : isIv (maxV a c) (minV b d) = true := by
      have x1 : isV (maxV a c) = true := inB_mk (by unfold maxV; split <;> omega)
      have x2 : isV (minV b d) = true := inB_mk (by unfold minV; split <;> omega)
      simp [isIv, x1, x2, hm]
    have e6 : inB k (maxV a c) (minV b d) = inB k c d := by
      unfold inB maxV minV
      rw [decide_eq_decide]
      split <;> split <;> omega
    rw [e2, e3, e4, e5, e6, e1]; simp
  · have e2 : mtC a b c d = 4 := by simp [mtC, h0, hm]
    have e3 : inB k c d = false := by
      unfold inB
      rw [decide_eq_false_iff_not]
      unfold maxV minV at hm
      revert hm
      split <;> split <;> omega
    rw [e2, e3]; simp

/-! products -/
theorem line {l h x m : Int} (hl : l ≤ x) (hh : x ≤ h) : (l * m ≤ x * m ∨ h * m ≤ x * m) ∧ (x * m ≤ l * m ∨ x * m ≤ h * m) := by
  rcases Int.le_total 0 m with k | k
  · have h1 := Int.mul_le_mul_of_nonneg_right hl k
    have h2 := Int.mul_le_mul_of_nonneg_right hh k
    exact ⟨.inl h1, .inr h2⟩
  · have h1 := Int.mul_le_mul_of_nonpos_right hl k
    have h2 := Int.mul_le_mul_of_nonpos_right hh k
    exact ⟨.inr h2, .inl h1⟩
theorem corner {a b c d x y : Int} (h1 : a ≤ x) (h2 : x ≤ b) (h3 : c ≤ y) (h4 : y ≤ d) : mn4 (a * c) (a * d) (b * c) (b * d) ≤ x * y ∧ x * y ≤ mx4 (a * c) (a * d) (b * c) (b * d) := by
  obtain ⟨_, m1, m2, m3, m4⟩ := mn4_of (rfl : mn4 (a * c) (a * d) (b * c) (b * d) = _)
  obtain ⟨_, n1, n2, n3, n4⟩ := mx4_of (rfl : mx4 (a * c) (a * d) (b * c) (b * d) = _)
  obtain ⟨p1, p2⟩ := line (m := y) h1 h2
  obtain ⟨q1, q2⟩ := line (m := a) h3 h4
  obtain ⟨r1, r2⟩ := line (m := b) h3 h4
  rw [Int.mul_comm c a, Int.mul_comm d a, Int.mul_comm y a] at q1 q2
  rw [Int.mul_comm c b, Int.mul_comm d b, Int.mul_comm y b] at r1 r2
  omega
/-! scales -/
theorem scale_law {l h v m D : Int} (h1 : l ≤ v) (h2 : v ≤ h) (hD : 0 < D) : flo (mnV (l * m) (h * m)) D * D ≤ v * m ∧ v * m ≤ cel (mxV (l * m) (h * m)) D * D := by
  obtain ⟨p1, p2⟩ := line (m := m) h1 h2
  have k1 := flo_pos (a := mnV (l * m) (h * m)) hD
  have k2 := flo_pos (a := -mxV (l * m) (h * m)) hD
  have e : cel (mxV (l * m) (h * m)) D * D = -(flo (-mxV (l * m) (h * m)) D * D) := by unfold cel; rw [Int.neg_mul]
  rw [e]
  have m1 : mnV (l * m) (h * m) ≤ l * m ∧ mnV (l * m) (h * m) ≤ h * m := by unfold mnV; split <;> omega
  have m2 : l * m ≤ mxV (l * m) (h * m) ∧ h * m ≤ mxV (l * m) (h * m) := by unfold mxV; split <;> omega
  omega
/-! quotients -/
theorem flo_le {z x y : Int} (hy : 0 < y) : z ≤ flo x y ↔ z * y ≤ x := by
  unfold flo; rw [if_neg (by omega)]; exact Int.le_ediv_iff_mul_le hy
theorem flo_mono {a x y : Int} (hy : 0 < y) (h : a ≤ x) : flo a y ≤ flo x y := by
  rw [flo_le hy]; have := (flo_pos (a := a) hy).1; omega
/-- over a divisor greater than nought: one of the ends is below, one above -/
theorem flo_div {x c d y : Int} (hc : 0 < c) (h3 : c ≤ y) (h4 : y ≤ d) : (flo x c ≤ flo x y ∨ flo x d ≤ flo x y) ∧ (flo x y ≤ flo x c ∨ flo x y ≤ flo x d) := by
  have hy : 0 < y := by omega
  have hd : 0 < d := by omega
  rcases Int.le_total 0 x with k | k
  · constructor
    · right
      rw [flo_le hy]
      have e := flo_pos (a := x) hd
      have e0 : 0 ≤ flo x d := (flo_le hd).2 (by omega)
      have := Int.mul_le_mul_of_nonneg_left h4 e0
      omega
    · left
      rw [flo_le hc]
      have e := flo_pos (a := x) hy
      have e0 : 0 ≤ flo x y := (flo_le hy).2 (by omega)
      have := Int.mul_le_mul_of_nonneg_left h3 e0
      omega
  · constructor
    · left
      rw [flo_le hy]
      have e := flo_pos (a := x) hc
      have e0 : flo x c ≤ 0 := by
        rcases Int.lt_or_le 0 (flo x c) with t | t
        · have := Int.mul_pos t hc; omega
        · exact t
      have := Int.mul_le_mul_of_nonpos_left e0 h3
      omega
    · right
      rw [flo_le hd]
      have e := flo_pos (a := x) hy
      have e0 : flo x y ≤ 0 := by
        rcases Int.lt_or_le 0 (flo x y) with t | t
        · have := Int.mul_pos t hy; omega
        · exact t
      have := Int.mul_le_mul_of_nonpos_left e0 h4
      omega
theorem quo_corner_pos {a b c d x y : Int} (hc : 0 < c) (h1 : a ≤ x) (h2 : x ≤ b) (h3 : c ≤ y) (h4 : y ≤ d) :
    (flo a c ≤ flo x y ∨ flo a d ≤ flo x y) ∧ (flo x y ≤ flo b c ∨ flo x y ≤ flo b d) := by
  have e1 := flo_mono (y := y) (by omega) h1
  have e2 := flo_mono (y := y) (by omega) h2
  obtain ⟨p, _⟩ := flo_div (x := a) hc h3 h4
  obtain ⟨_, q⟩ := flo_div (x := b) hc h3 h4
  omega
theorem flo_swap {x y : Int} (hy : ¬ y = 0) : flo x y = flo (-x) (-y) := by
  rcases Int.lt_or_le y 0 with h | h
  · exact flo_neg x y h
  · rw [flo_neg (-x) (-y) (by omega), Int.neg_neg, Int.neg_neg]
theorem quo_law {a b c d x y : Int} (hz : 0 < c ∨ d < 0) (h1 : a ≤ x) (h2 : x ≤ b) (h3 : c ≤ y) (h4 : y ≤ d) :
    mn4 (flo a c) (flo a d) (flo b c) (flo b d) ≤ flo x y ∧ cel x y ≤ mx4 (cel a c) (cel a d) (cel b c) (cel b d) := by
  obtain ⟨_, m1, m2, m3, m4⟩ := mn4_of (rfl : mn4 (flo a c) (flo a d) (flo b c) (flo b d) = _)
  obtain ⟨_, n1, n2, n3, n4⟩ := mx4_of (rfl : mx4 (cel a c) (cel a d) (cel b c) (cel b d) = _)
  unfold cel at *
  rcases hz with hz | hz
  · have k1 := quo_corner_pos hz h1 h2 h3 h4
    have k2 := quo_corner_pos (a := -b) (b := -a) (x := -x) hz (by omega) (by omega) h3 h4
    omega
  · have k1 := quo_corner_pos (a := -b) (b := -a) (x := -x) (c := -d) (d := -c) (y := -y) (by omega) (by omega) (by omega) (by omega) (by omega)
    have k2 := quo_corner_pos (a := a) (b := b) (x := x) (c := -d) (d := -c) (y := -y) (by omega) (by omega) (by omega) (by omega) (by omega)
    have s : ∀ u v : Int, c ≤ v → v ≤ d → flo u v = flo (-u) (-v) := fun u v p q => flo_swap (by omega)
    rw [s x y h3 h4, s a c (by omega) (by omega), s a d (by omega) (by omega), s b c (by omega) (by omega), s b d (by omega) (by omega)] at *
    have s' : ∀ u v : Int, c ≤ v → v ≤ d → flo (-u) v = flo u (-v) := fun u v p q => by rw [flo_swap (by omega), Int.neg_neg]
    rw [s' x y h3 h4, s' a c (by omega) (by omega), s' a d (by omega) (by omega), s' b c (by omega) (by omega), s' b d (by omega) (by omega)] at *
    omega

end Go.Proofs.Ytincelkcbdjcjaa
