/- What the functions on directions give, with their terms put away. -/
import Derived.Test.YtincelkcbdjcjaaLawD
import Derived.Test.YtincelkcbdjcjaaDirOps
import Derived.Test.YtincelkcbdjcjaaSrc
namespace Go.Proofs.Ytincelkcbdjcjaa
open Go.RowKit
set_option linter.unusedVariables false

theorem isDir_bd3 {c s h : Int} (k : isDir c s h = true) : (1 ≤ h ∧ h ≤ 1000) ∧ (1 ≤ c ∧ c ≤ 1000) ∧ -1000 ≤ s ∧ s ≤ 1000 := isDir_bd k
theorem isDir_neg {c s h : Int} (k : isDir c s h = true) : isDir c (-s) h = true := by
  have b := isDir_bd k
  unfold isDir at k ⊢
  simp only [Bool.and_eq_true, bne_iff_ne, ne_eq, beq_iff_eq] at k ⊢
  obtain ⟨⟨⟨⟨⟨k1, k2⟩, k3⟩, k4⟩, k5⟩, k6⟩ := k
  refine ⟨⟨⟨⟨⟨k1, k2⟩, ?_⟩, by omega⟩, ?_⟩, ?_⟩
  · unfold inB; simp only [Bool.and_eq_true, decide_eq_true_eq]; omega
  · rw [Int.neg_mul_neg]; exact k5
  · rw [Int.gcd_neg]; exact k6
theorem mir_abs (a b c : Int) : ∃ x y z k : Int, (∀ w0 : World, Calls Try.prog 15 #[.agg #[.int .i64 a, .int .i64 b, .int .i64 c]] w0 fun o w' => o = .returned (.tuple #[.agg #[.int .i64 x, .int .i64 y, .int .i64 z], .int .i64 k]) ∧ Below w0.heap.size w0 w') ∧
    (∀ w0 : World, Calls Try.prog 16 #[.agg #[.int .i64 a, .int .i64 b, .int .i64 c]] w0 fun o w' => o = .returned (.tuple #[.agg #[.int .i64 x, .int .i64 y, .int .i64 z], .int .i64 k]) ∧ Below w0.heap.size w0 w') ∧
    (k = 1 ∨ k = 0 ∧ (∀ w0 : World, Calls Try.prog 15 #[.agg #[.int .i64 x, .int .i64 y, .int .i64 z]] w0 fun o w' => o = .returned (.tuple #[.agg #[.int .i64 a, .int .i64 b, .int .i64 c], .int .i64 0]) ∧ Below w0.heap.size w0 w') ∧
      (∀ w0 : World, Calls Try.prog 18 #[.agg #[.int .i64 a, .int .i64 b, .int .i64 c], .agg #[.int .i64 x, .int .i64 y, .int .i64 z]] w0 fun o w' => o = .returned (.tuple #[.int .i64 0, .int .i64 0]) ∧ Below w0.heap.size w0 w')) := by
  refine ⟨mdC a b c, mdS a b c, mdH a b c, mdE a b c, fun w0 => mirI a b c w0, fun w0 => mirS a b c w0, ?_⟩
  rcases hk : isDir a b c
  · left; simp [mdE, hk]
  · right
    have hn := isDir_neg hk
    have e1 : mdC a b c = a := by simp [mdC, hk]
    have e2 : mdS a b c = -b := by simp [mdS, hk]
    have e3 : mdH a b c = c := by simp [mdH, hk]
    have e4 : mdE a b c = 0 := by simp [mdE, hk]
    rw [e1, e2, e3]
    refine ⟨e4, fun w0 => ?_, fun w0 => ?_⟩
    · have := mirI a (-b) c w0
      have f1 : mdC a (-b) c = a := by simp [mdC, hn]
      have f2 : mdS a (-b) c = b := by simp [mdS, hn]
      have f3 : mdH a (-b) c = c := by simp [mdH, hn]
      have f4 : mdE a (-b) c = 0 := by simp [mdE, hn]
      rw [f1, f2, f3, f4] at this
      exact this
    · have := cmpDIv a b c a (-b) c w0
      have f1 : cdV a b c a (-b) c = 0 := by unfold cdV; rw [hk, hn]; exact cmpP_eq rfl
      have f2 : cdE a b c a (-b) c = 0 := by unfold cdE; rw [hk, hn]; rfl
      rw [f1, f2] at this
      exact this
theorem mkd_abs (m n : Int) (q : Bool) : ∃ x y z k : Int, (∀ w0 : World, Calls Try.prog 12 #[.int .i64 m, .int .i64 n, .bool q] w0 fun o w' => o = .returned (.tuple #[.agg #[.int .i64 x, .int .i64 y, .int .i64 z], .int .i64 k]) ∧ Below w0.heap.size w0 w') ∧
    (∀ w0 : World, Calls Try.prog 13 #[.int .i64 m, .int .i64 n, .bool q] w0 fun o w' => o = .returned (.tuple #[.agg #[.int .i64 x, .int .i64 y, .int .i64 z], .int .i64 k]) ∧ Below w0.heap.size w0 w') ∧
    (k = 2 ∨ k = 0 ∧ decide (0 < y) = q ∧ (1 ≤ m ∧ m ≤ 1000) ∧ (∀ w0 : World, Calls Try.prog 20 #[.agg #[.int .i64 x, .int .i64 y, .int .i64 z]] w0 fun o w' => o = .returned (.bool true) ∧ Below w0.heap.size w0 w') ∧
      ∃ x' y' z' k' v u : Int, (∀ w0 : World, Calls Try.prog 12 #[.int .i64 (m + 1), .int .i64 n, .bool q] w0 fun o w' => o = .returned (.tuple #[.agg #[.int .i64 x', .int .i64 y', .int .i64 z'], .int .i64 k']) ∧ Below w0.heap.size w0 w') ∧
        (∀ w0 : World, Calls Try.prog 18 #[.agg #[.int .i64 x, .int .i64 y, .int .i64 z], .agg #[.int .i64 x', .int .i64 y', .int .i64 z']] w0 fun o w' => o = .returned (.tuple #[.int .i64 v, .int .i64 u]) ∧ Below w0.heap.size w0 w') ∧ (k' = 2 ∨ k' = 0 ∧ u = 0 ∧ v = 1)) := by
  refine ⟨ndC m n, ndS m n q, ndH m n, ndE m n, fun w0 => dirI m n q w0, fun w0 => dirS m n q w0, ?_⟩
  rcases hk : dOk m n
  · left; simp [ndE, hk]
  · right
    obtain ⟨g, _, _, _, _, _, _, h3, hd⟩ := mk_dir hk
    have hbd := dOk_bd hk
    have e1 : ndC m n = dC m n := by simp [ndC, hk]
    have e2 : ndS m n q = dS m n q := by simp [ndS, hk]
    have e3 : ndH m n = dH m n := by simp [ndH, hk]
    have e4 : ndE m n = 0 := by simp [ndE, hk]
    rw [e1, e2, e3]
    refine ⟨e4, ?_, by omega, fun w0 => ?_, ndC (m + 1) n, ndS (m + 1) n q, ndH (m + 1) n, ndE (m + 1) n, cdV (dC m n) (dS m n q) (dH m n) (ndC (m + 1) n) (ndS (m + 1) n q) (ndH (m + 1) n), cdE (dC m n) (dS m n q) (dH m n) (ndC (m + 1) n) (ndS (m + 1) n q) (ndH (m + 1) n), fun w0 => dirI (m + 1) n q w0, fun w0 => cmpDIv _ _ _ _ _ _ w0, ?_⟩
    · have h := h3 q
      cases q <;> simp at h ⊢ <;> omega
    · have := isDirI (dC m n) (dS m n q) (dH m n) w0
      rw [hd q] at this
      exact this
    · rcases hk' : dOk (m + 1) n
      · left; simp [ndE, hk']
      · right
        obtain ⟨g', _, _, _, _, _, _, _, hd'⟩ := mk_dir hk'
        have f1 : ndC (m + 1) n = dC (m + 1) n := by simp [ndC, hk']
        have f2 : ndS (m + 1) n q = dS (m + 1) n q := by simp [ndS, hk']
        have f3 : ndH (m + 1) n = dH (m + 1) n := by simp [ndH, hk']
        have f4 : ndE (m + 1) n = 0 := by simp [ndE, hk']
        rw [f1, f2, f3]
        refine ⟨f4, ?_, ?_⟩
        · unfold cdE; rw [hd q, hd' q]; rfl
        · unfold cdV; rw [hd q, hd' q]; exact steeper hk hk'
end Go.Proofs.Ytincelkcbdjcjaa
