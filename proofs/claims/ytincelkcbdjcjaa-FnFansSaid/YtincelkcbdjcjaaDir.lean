/- Contracts of functions on directions: whether one is valid. -/
import Derived.Test.YtincelkcbdjcjaaStruct
namespace Go.Proofs.Ytincelkcbdjcjaa
open Go.RowKit
set_option linter.unusedVariables false

def isDir (c s h : Int) : Bool := inB h 1 1000 && inB c 1 1000 && inB s (-1000) 1000 && (s != 0) && (c * c + s * s == h * h) && ((Int.gcd (Int.gcd c s) h : Int) == 1)
theorem gcd_le {p q : Int} {b : Nat} (h : p.natAbs ≤ b) (h' : q.natAbs ≤ b) : Int.gcd p q ≤ b := by
  by_cases hp : p = 0
  · subst hp; simpa using h'
  · have := Nat.le_of_dvd (by omega) (Nat.gcd_dvd_left p.natAbs q.natAbs)
    exact Nat.le_trans this h
theorem dir_no {c s h : Int} (h1 : inB h 1 1000 = true) (hc : ¬ (1 ≤ c ∧ c ≤ h) ∨ ¬ (-h ≤ s ∧ s ≤ h)) : isDir c s h = false := by
  unfold isDir
  rcases h2 : inB c 1 1000
  · simp
  rcases h3 : inB s (-1000) 1000
  · simp
  have b1 := inB_t h1
  have b2 := inB_t h2
  have b3 := inB_t h3
  have : (c * c + s * s == h * h) = false := by
    simp only [beq_eq_false_iff_ne, ne_eq]
    intro e
    have hs0 : 0 ≤ s * s := by
      rcases Int.le_total 0 s with k | k
      · exact Int.mul_nonneg k k
      · have := Int.mul_nonneg (show 0 ≤ -s by omega) (show 0 ≤ -s by omega)
        rwa [Int.neg_mul_neg] at this
    have hc0 : 1 ≤ c * c := by have := Int.mul_le_mul (show 1 ≤ c by omega) (show 1 ≤ c by omega) (by omega) (by omega); omega
    rcases hc with hc | hc
    · have := Int.mul_le_mul (show h + 1 ≤ c by omega) (show h + 1 ≤ c by omega) (by omega) (by omega)
      have e2 : (h + 1) * (h + 1) = h * h + h + h + 1 := by rw [Int.mul_add, Int.add_mul]; omega
      omega
    · have e2 : (h + 1) * (h + 1) = h * h + h + h + 1 := by rw [Int.mul_add, Int.add_mul]; omega
      rcases Int.le_total 0 s with k | k
      · have := Int.mul_le_mul (show h + 1 ≤ s by omega) (show h + 1 ≤ s by omega) (by omega) (by omega)
        omega
      · have := Int.mul_le_mul (show h + 1 ≤ -s by omega) (show h + 1 ≤ -s by omega) (by omega) (by omega)
        rw [Int.neg_mul_neg] at this
        omega
  simp [this]

set_option maxHeartbeats 400000 in
theorem isDirS (c s h : Int) (w : World) : Calls Try.prog 21 #[.agg #[.int .i64 c, .int .i64 s, .int .i64 h]] w fun e w' => e = .returned (.bool (isDir c s h)) ∧ Below w.heap.size w w' := by
  rcases h1 : inB h 1 1000
  · go_enter Try.func21, Try.ntmps21
    go_wp2_with fail
    go_quiet ((first | (go_at_call 62; exact qSame (inSv (by assumption) _)) | (go_at_call 63; exact Calls.quiet_of (gcdS _ _ _ (by omega) (by omega) (by omega) (by omega)))))
    go_wp2
    go_ret
    exact ⟨ret_b (by simp [isDir, h1]), by (repeat' (first | (with_reducible exact Below.refl _ _) | (with_reducible assumption) | (with_reducible refine bStep ?_ (by with_reducible assumption)) | (with_reducible refine bAlloc ?_ _) | (with_reducible refine bDrew ?_) | (with_reducible refine bDrewN ?_ _) | (with_reducible refine Below.setCell ?_ ?_ _) | (with_reducible exact Nat.le_refl _) | (simp; done) | (simp; omega)))⟩
  have b1 := inB_t h1
  rcases h2 : inB c 1 h
  · have N : Hid (isDir c s h = false) := dir_no h1 (.inl (inB_f h2))
    go_enter Try.func21, Try.ntmps21
    go_wp2_with fail
    go_quiet ((first | (go_at_call 62; exact qSame (inSv (by assumption) _)) | (go_at_call 63; exact Calls.quiet_of (gcdS _ _ _ (by omega) (by omega) (by omega) (by omega)))))
    go_wp2
    go_ret
    exact ⟨ret_b N.out.symm, by (repeat' (first | (with_reducible exact Below.refl _ _) | (with_reducible assumption) | (with_reducible refine bStep ?_ (by with_reducible assumption)) | (with_reducible refine bAlloc ?_ _) | (with_reducible refine bDrew ?_) | (with_reducible refine bDrewN ?_ _) | (with_reducible refine Below.setCell ?_ ?_ _) | (with_reducible exact Nat.le_refl _) | (simp; done) | (simp; omega)))⟩
  have b2 := inB_t h2
  rcases h3 : inB s (-h) h
  · have N : Hid (isDir c s h = false) := dir_no h1 (.inr (inB_f h3))
    go_enter Try.func21, Try.ntmps21
    go_wp2_with fail
    go_quiet ((first | (go_at_call 62; exact qSame (inSv (by assumption) _)) | (go_at_call 63; exact Calls.quiet_of (gcdS _ _ _ (by omega) (by omega) (by omega) (by omega)))))
    go_wp2
    go_ret
    exact ⟨ret_b N.out.symm, by (repeat' (first | (with_reducible exact Below.refl _ _) | (with_reducible assumption) | (with_reducible refine bStep ?_ (by with_reducible assumption)) | (with_reducible refine bAlloc ?_ _) | (with_reducible refine bDrew ?_) | (with_reducible refine bDrewN ?_ _) | (with_reducible refine Below.setCell ?_ ?_ _) | (with_reducible exact Nat.le_refl _) | (simp; done) | (simp; omega)))⟩
  have b3 := inB_t h3
  have c2 : inB c 1 1000 = true := inB_mk (by omega)
  have c3 : inB s (-1000) 1000 = true := inB_mk (by omega)
  rcases h4 : (s != 0)
  · go_enter Try.func21, Try.ntmps21
    go_wp2_with fail
    go_quiet ((first | (go_at_call 62; exact qSame (inSv (by assumption) _)) | (go_at_call 63; exact Calls.quiet_of (gcdS _ _ _ (by omega) (by omega) (by omega) (by omega)))))
    go_wp2
    go_ret
    exact ⟨ret_b (by simp [isDir, h4]), by (repeat' (first | (with_reducible exact Below.refl _ _) | (with_reducible assumption) | (with_reducible refine bStep ?_ (by with_reducible assumption)) | (with_reducible refine bAlloc ?_ _) | (with_reducible refine bDrew ?_) | (with_reducible refine bDrewN ?_ _) | (with_reducible refine Below.setCell ?_ ?_ _) | (with_reducible exact Nat.le_refl _) | (simp; done) | (simp; omega)))⟩
  obtain ⟨p, hp⟩ : ∃ p, c * c = p := ⟨_, rfl⟩
  obtain ⟨q, hq⟩ : ∃ q, s * s = q := ⟨_, rfl⟩
  obtain ⟨r, hr⟩ : ∃ r, h * h = r := ⟨_, rfl⟩
  have s1 : 0 ≤ p ∧ p ≤ 1000000 := by have := sq_le (r := c) (s := 1000) (by omega) (by omega); have := Int.mul_nonneg (show 0 ≤ c by omega) (show 0 ≤ c by omega); omega
  have s2 : 0 ≤ q ∧ q ≤ 1000000 := by
    rcases Int.le_total 0 s with k | k
    · have := sq_le (r := s) (s := 1000) (by omega) (by omega); have := Int.mul_nonneg k k; omega
    · have := sq_le (r := -s) (s := 1000) (by omega) (by omega); have := Int.mul_nonneg (show 0 ≤ -s by omega) (show 0 ≤ -s by omega); rw [Int.neg_mul_neg] at *; omega
  have s3 : 0 ≤ r ∧ r ≤ 1000000 := by have := sq_le (r := h) (s := 1000) (by omega) (by omega); have := Int.mul_nonneg (show 0 ≤ h by omega) (show 0 ≤ h by omega); omega
  have g1 : (Int.gcd c s) ≤ 1000 := gcd_le (by omega) (by omega)
  rcases h5 : (p + q == r)
  · go_enter Try.func21, Try.ntmps21
    go_wp2_with fail
    go_quiet ((first | (go_at_call 62; exact qSame (inSv (by assumption) _)) | (go_at_call 63; exact Calls.quiet_of (gcdS _ _ _ (by omega) (by omega) (by omega) (by omega)))))
    go_wp2
    go_ret
    exact ⟨ret_b (by simp [isDir, hp, hq, hr, h5]), by (repeat' (first | (with_reducible exact Below.refl _ _) | (with_reducible assumption) | (with_reducible refine bStep ?_ (by with_reducible assumption)) | (with_reducible refine bAlloc ?_ _) | (with_reducible refine bDrew ?_) | (with_reducible refine bDrewN ?_ _) | (with_reducible refine Below.setCell ?_ ?_ _) | (with_reducible exact Nat.le_refl _) | (simp; done) | (simp; omega)))⟩
  · go_enter Try.func21, Try.ntmps21
    go_wp2_with fail
    go_quiet ((first | (go_at_call 62; exact qSame (inSv (by assumption) _)) | (go_at_call 63; exact Calls.quiet_of (gcdS _ _ _ (by omega) (by omega) (by omega) (by omega)))))
    go_wp2
    go_ret
    exact ⟨ret_b (by simp [isDir, hp, hq, hr, h1, h4, h5, c2, c3]), by (repeat' (first | (with_reducible exact Below.refl _ _) | (with_reducible assumption) | (with_reducible refine bStep ?_ (by with_reducible assumption)) | (with_reducible refine bAlloc ?_ _) | (with_reducible refine bDrew ?_) | (with_reducible refine bDrewN ?_ _) | (with_reducible refine Below.setCell ?_ ?_ _) | (with_reducible exact Nat.le_refl _) | (simp; done) | (simp; omega)))⟩
set_option maxHeartbeats 400000 in
theorem isDirI (c s h : Int) (w : World) : Calls Try.prog 20 #[.agg #[.int .i64 c, .int .i64 s, .int .i64 h]] w fun e w' => e = .returned (.bool (isDir c s h)) ∧ Below w.heap.size w w' := by
  rcases h1 : inB h 1 1000
  · go_enter Try.func20, Try.ntmps20
    go_wp2_with fail
    go_quiet ((first | (go_at_call 60; exact qSame (inIv (by assumption) _)) | (go_at_call 67; exact Calls.quiet_of (gcdI _ _ _ (by omega) (by omega) (by omega) (by omega)))))
    go_wp2
    go_ret
    exact ⟨ret_b (by simp [isDir, h1]), by (repeat' (first | (with_reducible exact Below.refl _ _) | (with_reducible assumption) | (with_reducible refine bStep ?_ (by with_reducible assumption)) | (with_reducible refine bAlloc ?_ _) | (with_reducible refine bDrew ?_) | (with_reducible refine bDrewN ?_ _) | (with_reducible refine Below.setCell ?_ ?_ _) | (with_reducible exact Nat.le_refl _) | (simp; done) | (simp; omega)))⟩
  have b1 := inB_t h1
  rcases h2 : inB c 1 1000
  · go_enter Try.func20, Try.ntmps20
    go_wp2_with fail
    go_quiet ((first | (go_at_call 60; exact qSame (inIv (by assumption) _)) | (go_at_call 67; exact Calls.quiet_of (gcdI _ _ _ (by omega) (by omega) (by omega) (by omega)))))
    go_wp2
    go_ret
    exact ⟨ret_b (by simp [isDir, h2]), by (repeat' (first | (with_reducible exact Below.refl _ _) | (with_reducible assumption) | (with_reducible refine bStep ?_ (by with_reducible assumption)) | (with_reducible refine bAlloc ?_ _) | (with_reducible refine bDrew ?_) | (with_reducible refine bDrewN ?_ _) | (with_reducible refine Below.setCell ?_ ?_ _) | (with_reducible exact Nat.le_refl _) | (simp; done) | (simp; omega)))⟩
  have b2 := inB_t h2
  rcases h3 : inB s (-1000) 1000
  · go_enter Try.func20, Try.ntmps20
    go_wp2_with fail
    go_quiet ((first | (go_at_call 60; exact qSame (inIv (by assumption) _)) | (go_at_call 67; exact Calls.quiet_of (gcdI _ _ _ (by omega) (by omega) (by omega) (by omega)))))
    go_wp2
    go_ret
    exact ⟨ret_b (by simp [isDir, h3]), by (repeat' (first | (with_reducible exact Below.refl _ _) | (with_reducible assumption) | (with_reducible refine bStep ?_ (by with_reducible assumption)) | (with_reducible refine bAlloc ?_ _) | (with_reducible refine bDrew ?_) | (with_reducible refine bDrewN ?_ _) | (with_reducible refine Below.setCell ?_ ?_ _) | (with_reducible exact Nat.le_refl _) | (simp; done) | (simp; omega)))⟩
  have b3 := inB_t h3
  rcases h4 : (s != 0)
  · go_enter Try.func20, Try.ntmps20
    go_wp2_with fail
    go_quiet ((first | (go_at_call 60; exact qSame (inIv (by assumption) _)) | (go_at_call 67; exact Calls.quiet_of (gcdI _ _ _ (by omega) (by omega) (by omega) (by omega)))))
    go_wp2
    go_ret
    exact ⟨ret_b (by simp [isDir, h4]), by (repeat' (first | (with_reducible exact Below.refl _ _) | (with_reducible assumption) | (with_reducible refine bStep ?_ (by with_reducible assumption)) | (with_reducible refine bAlloc ?_ _) | (with_reducible refine bDrew ?_) | (with_reducible refine bDrewN ?_ _) | (with_reducible refine Below.setCell ?_ ?_ _) | (with_reducible exact Nat.le_refl _) | (simp; done) | (simp; omega)))⟩
  obtain ⟨p, hp⟩ : ∃ p, c * c = p := ⟨_, rfl⟩
  obtain ⟨q, hq⟩ : ∃ q, s * s = q := ⟨_, rfl⟩
  obtain ⟨r, hr⟩ : ∃ r, h * h = r := ⟨_, rfl⟩
  have s1 : 0 ≤ p ∧ p ≤ 1000000 := by have := sq_le (r := c) (s := 1000) (by omega) (by omega); have := Int.mul_nonneg (show 0 ≤ c by omega) (show 0 ≤ c by omega); omega
  have s2 : 0 ≤ q ∧ q ≤ 1000000 := by
    rcases Int.le_total 0 s with k | k
    · have := sq_le (r := s) (s := 1000) (by omega) (by omega); have := Int.mul_nonneg k k; omega
    · have := sq_le (r := -s) (s := 1000) (by omega) (by omega); have := Int.mul_nonneg (show 0 ≤ -s by omega) (show 0 ≤ -s by omega); rw [Int.neg_mul_neg] at *; omega
  have s3 : 0 ≤ r ∧ r ≤ 1000000 := by have := sq_le (r := h) (s := 1000) (by omega) (by omega); have := Int.mul_nonneg (show 0 ≤ h by omega) (show 0 ≤ h by omega); omega
  have g1 : (Int.gcd c s) ≤ 1000 := gcd_le (by omega) (by omega)
  rcases h5 : (p + q == r)
  · go_enter Try.func20, Try.ntmps20
    go_wp2_with fail
    go_quiet ((first | (go_at_call 60; exact qSame (inIv (by assumption) _)) | (go_at_call 67; exact Calls.quiet_of (gcdI _ _ _ (by omega) (by omega) (by omega) (by omega)))))
    go_wp2
    go_ret
    exact ⟨ret_b (by simp [isDir, hp, hq, hr, h5]), by (repeat' (first | (with_reducible exact Below.refl _ _) | (with_reducible assumption) | (with_reducible refine bStep ?_ (by with_reducible assumption)) | (with_reducible refine bAlloc ?_ _) | (with_reducible refine bDrew ?_) | (with_reducible refine bDrewN ?_ _) | (with_reducible refine Below.setCell ?_ ?_ _) | (with_reducible exact Nat.le_refl _) | (simp; done) | (simp; omega)))⟩
  · go_enter Try.func20, Try.ntmps20
    go_wp2_with fail
    go_quiet ((first | (go_at_call 60; exact qSame (inIv (by assumption) _)) | (go_at_call 67; exact Calls.quiet_of (gcdI _ _ _ (by omega) (by omega) (by omega) (by omega)))))
    go_wp2
    go_ret
    exact ⟨ret_b (by simp [isDir, hp, hq, hr, h1, h4, h5, h2, h3]), by (repeat' (first | (with_reducible exact Below.refl _ _) | (with_reducible assumption) | (with_reducible refine bStep ?_ (by with_reducible assumption)) | (with_reducible refine bAlloc ?_ _) | (with_reducible refine bDrew ?_) | (with_reducible refine bDrewN ?_ _) | (with_reducible refine Below.setCell ?_ ?_ _) | (with_reducible exact Nat.le_refl _) | (simp; done) | (simp; omega)))⟩
end Go.Proofs.Ytincelkcbdjcjaa
