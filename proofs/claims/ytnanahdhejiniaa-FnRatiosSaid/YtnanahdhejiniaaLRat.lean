/- The walk of the comparison of a ratio with a fraction; plain facts on the operations on ratios. -/
import Derived.Test.YtnanahdhejiniaaDrawR
import Derived.Test.YtnanahdhejiniaaDice
import Derived.Test.YtnanahdhejiniaaLawR
import Derived.Deep.RegionHeld3
import Derived.Deep.QuietTactic
import Derived.BigQuiet
import Derived.Laws.StructEq
namespace Go.Proofs.Ytnanahdhejiniaa
open Go.RowKit
set_option linter.unusedVariables false
variable {w : World}

theorem isRat_bd2 {n d : Int} (h : isRat n d = true) : (-1000000000 ≤ n ∧ n ≤ 1000000000) ∧ (1 ≤ d ∧ d ≤ 1000000000) ∧ Int.gcd n d = 1 := by
  have h' := h
  unfold isRat at h'
  simp only [Bool.and_eq_true, beq_iff_eq] at h'
  exact ⟨(isRat_bd h).1, (isRat_bd h).2, by have := h'.2; omega⟩
theorem isRat_neg {n d : Int} (h : isRat n d = true) : isRat (-n) d = true := by
  obtain ⟨h1, h2, h3⟩ := isRat_bd2 h
  unfold isRat
  rw [inB_mk (by omega), inB_mk (by omega), Int.neg_gcd, h3]
  rfl
theorem mk_ok {n d c : Int} (h : mkC n d c = 0) (hc : ¬ c = 0) : mkOk n d = true ∧ mkN n d = pN n d ∧ mkD n d = pD n d := by
  rcases hk : mkOk n d
  · exfalso; unfold mkC at h; rw [hk] at h; simp at h; exact hc h
  · simp [mkN, mkD, hk]
theorem mk_to {n d p q : Int} (hd : ¬ d = 0) (h : isRat p q = true) (e : n * q = p * d) (c : Int) : mkN n d = p ∧ mkD n d = q ∧ mkC n d c = 0 := by
  obtain ⟨_, h2, h3⟩ := isRat_bd2 h
  obtain ⟨e1, e2⟩ := mk_canon hd h3 (by omega) e
  have hk : mkOk n d = true := by unfold mkOk; rw [e1, e2]; exact h
  simp [mkN, mkD, mkC, hk, e1, e2]
theorem likeR {n d num den : Int} (e : n * den = num * d) (w : World) : Calls Try.prog 40 #[.agg #[.int .i64 n, .int .i64 d], .int .i64 num, .int .i64 den] w fun e w' => e = .returned (.bool true) ∧ Below w.heap.size w w' := by
  obtain ⟨x, hx⟩ : ∃ x, n * den = x := ⟨_, rfl⟩
  rw [hx] at e
  have hx2 : num * d = x := e.symm
  clear e
  go_enter Try.func40, Try.ntmps40
  go_wp2
  try go_quiet (fail)
  all_goals go_wp2
  all_goals go_ret
  all_goals exact ⟨ret_b (by simp), by (repeat' (first | (with_reducible exact Below.refl _ _) | (with_reducible assumption) | (with_reducible refine bStep ?_ (by with_reducible assumption)) | (with_reducible refine bAlloc ?_ _) | (with_reducible refine bDrew ?_) | (with_reducible refine bDrewN ?_ _) | (with_reducible refine Below.setCell ?_ ?_ _) | (with_reducible exact Nat.le_refl _) | (simp; done) | (simp; omega)))⟩
end Go.Proofs.Ytnanahdhejiniaa
