/- Contracts of the functions on numbers (no loops): ranges, absolute value, sign, quotients, codes. -/
import Derived.Test.YtincelkcbdjcjaaChecked
import Derived.Test.YtincelkcbdjcjaaMath
import Derived.WalkKit
import Derived.WalkSpells
import Derived.WalkLawsBesides
import Derived.Handy
namespace Go.Proofs.Ytincelkcbdjcjaa
open Go.RowKit

/-- the code of a quotient -/
def qc (a b : Int) : Int := if isV a && isV b then (if b = 0 then 5 else 0) else 2

theorem ret_b {a b : Bool} (h : a = b) : Ending.returned (.bool a) = .returned (.bool b) := by rw [h]
theorem ret_i {k : IntKind} {a b : Int} (h : a = b) : Ending.returned (.int k a) = .returned (.int k b) := by rw [h]

theorem inS (x l h : Int) (w : World) : Calls Try.prog 62 #[.int .i64 x, .int .i64 l, .int .i64 h] w fun e w' => e = .returned (.bool (inB x l h)) ∧ w = w' := by
  go_enter Try.func62, Try.ntmps62
  go_wp2
  all_goals go_ret
  all_goals exact ⟨ret_b (by first | (simp [inB, *]; done) | (simp [inB, *]; omega)), rfl⟩
theorem inI (x l h : Int) (w : World) : Calls Try.prog 60 #[.int .i64 x, .int .i64 l, .int .i64 h] w fun e w' => e = .returned (.bool (inB x l h)) ∧ w = w' := by
  go_enter Try.func60, Try.ntmps60
  go_wp2
  all_goals go_ret
  all_goals exact ⟨ret_b (by first | (simp [inB, *]; done) | (simp [inB, *]; omega)), rfl⟩
theorem inSv {x l h : Int} {b : Bool} (hb : inB x l h = b) (w : World) : Calls Try.prog 62 #[.int .i64 x, .int .i64 l, .int .i64 h] w fun e w' => e = .returned (.bool b) ∧ w = w' := hb ▸ inS x l h w
theorem inIv {x l h : Int} {b : Bool} (hb : inB x l h = b) (w : World) : Calls Try.prog 60 #[.int .i64 x, .int .i64 l, .int .i64 h] w fun e w' => e = .returned (.bool b) ∧ w = w' := hb ▸ inI x l h w
theorem isS (x : Int) (w : World) : Calls Try.prog 99 #[.int .i64 x] w fun e w' => e = .returned (.bool (isV x)) ∧ w = w' := by
  go_enter Try.func99, Try.ntmps99
  go_wp2_with (go_at_call 62; refine (inS _ _ _ _).mono ?_; rintro e w' ⟨rfl, rfl⟩)
  go_ret
  exact ⟨rfl, rfl⟩
theorem isI (x : Int) (w : World) : Calls Try.prog 110 #[.int .i64 x] w fun e w' => e = .returned (.bool (isV x)) ∧ w = w' := by
  go_enter Try.func110, Try.ntmps110
  go_wp2_with (go_at_call 60; refine (inI _ _ _ _).mono ?_; rintro e w' ⟨rfl, rfl⟩)
  go_ret
  exact ⟨rfl, rfl⟩
theorem absS (x : Int) (w : World) (h : -9223372036854775807 ≤ x) (h' : x ≤ 9223372036854775807) : Calls Try.prog 104 #[.int .i64 x] w fun e w' => e = .returned (.int .i64 (iabs x)) ∧ w = w' := by
  go_enter Try.func104, Try.ntmps104
  go_wp2
  all_goals go_ret
  all_goals exact ⟨ret_i (by unfold iabs; omega), rfl⟩
theorem absI (x : Int) (w : World) (h : -9223372036854775807 ≤ x) (h' : x ≤ 9223372036854775807) : Calls Try.prog 106 #[.int .i64 x] w fun e w' => e = .returned (.int .i64 (iabs x)) ∧ w = w' := by
  go_enter Try.func106, Try.ntmps106
  go_wp2
  all_goals go_ret
  all_goals exact ⟨ret_i (by unfold iabs; omega), rfl⟩
theorem floS (a b : Int) (w : World) (h : -9000000000000000000 ≤ a) (h' : a ≤ 9000000000000000000) (hb : ¬ b = 0) : Calls Try.prog 93 #[.int .i64 a, .int .i64 b] w fun e w' => e = .returned (.int .i64 (flo a b)) ∧ w = w' := by
  have hq := tdiv_abs a b
  have q1 : wrap64 (a.tdiv b) = a.tdiv b := IntWalk.wrap64_in _ (by omega)
  have q2 : -9000000000000000000 ≤ a.tdiv b := by omega
  have q3 : a.tdiv b ≤ 9000000000000000000 := by omega
  have G : Hid (goFlo a b = flo a b) := goFlo_eq a b hb
  clear hq
  by_cases hm : a.tmod b = 0
  · have m1 : (a.tmod b == 0) = true := by simpa using hm
    have m2 : (a.tmod b != 0) = false := by simpa using hm
    have HM : Hid (a.tmod b = 0) := hm
    clear hm
    go_enter Try.func93, Try.ntmps93
    go_wp2
    go_ret
    exact ⟨ret_i (by rw [← G.out]; unfold goFlo; rw [if_neg (by intro hh; exact hh.1 HM.out)]), rfl⟩
  · have HM : Hid (a.tmod b ≠ 0) := hm
    have m1 : (a.tmod b == 0) = false := by simpa using hm
    have m2 : (a.tmod b != 0) = true := by simpa using hm
    clear hm
    by_cases ha : a < 0 <;> by_cases hb2 : b < 0
    · have A1 : Hid (a < 0) := ha
      have B1 : Hid (b < 0) := hb2
      have d1 : decide (a < 0) = true := by simpa using ha
      have d2 : decide (b < 0) = true := by simpa using hb2
      clear ha hb2
      go_enter Try.func93, Try.ntmps93
      go_wp2
      go_ret
      exact ⟨ret_i (by have := A1.out; have := B1.out; rw [← G.out]; unfold goFlo; rw [if_neg (by omega)]), rfl⟩
    · have A1 : Hid (a < 0) := ha
      have B1 : Hid (¬ b < 0) := hb2
      have d1 : decide (a < 0) = true := by simpa using ha
      have d2 : decide (b < 0) = false := by simpa using hb2
      clear ha hb2
      go_enter Try.func93, Try.ntmps93
      go_wp2
      go_ret
      exact ⟨ret_i (by have := A1.out; have := B1.out; rw [← G.out]; unfold goFlo; rw [if_pos ⟨HM.out, by omega⟩]), rfl⟩
    · have A1 : Hid (¬ a < 0) := ha
      have B1 : Hid (b < 0) := hb2
      have d1 : decide (a < 0) = false := by simpa using ha
      have d2 : decide (b < 0) = true := by simpa using hb2
      clear ha hb2
      go_enter Try.func93, Try.ntmps93
      go_wp2
      go_ret
      exact ⟨ret_i (by have := A1.out; have := B1.out; rw [← G.out]; unfold goFlo; rw [if_pos ⟨HM.out, by omega⟩]), rfl⟩
    · have A1 : Hid (¬ a < 0) := ha
      have B1 : Hid (¬ b < 0) := hb2
      have d1 : decide (a < 0) = false := by simpa using ha
      have d2 : decide (b < 0) = false := by simpa using hb2
      clear ha hb2
      go_enter Try.func93, Try.ntmps93
      go_wp2
      go_ret
      exact ⟨ret_i (by have := A1.out; have := B1.out; rw [← G.out]; unfold goFlo; rw [if_neg (by omega)]), rfl⟩
theorem floI (a b : Int) (w : World) (h : -9000000000000000000 ≤ a) (h' : a ≤ 9000000000000000000) (hb : ¬ b = 0) : Calls Try.prog 91 #[.int .i64 a, .int .i64 b] w fun e w' => e = .returned (.int .i64 (flo a b)) ∧ w = w' := by
  have hq := tdiv_abs a b
  have q1 : wrap64 (a.tdiv b) = a.tdiv b := IntWalk.wrap64_in _ (by omega)
  have q2 : -9000000000000000000 ≤ a.tdiv b := by omega
  have q3 : a.tdiv b ≤ 9000000000000000000 := by omega
  have G : Hid (goFlo a b = flo a b) := goFlo_eq a b hb
  clear hq
  by_cases hm : a.tmod b = 0
  · have m1 : (a.tmod b == 0) = true := by simpa using hm
    have m2 : (a.tmod b != 0) = false := by simpa using hm
    have HM : Hid (a.tmod b = 0) := hm
    clear hm
    go_enter Try.func91, Try.ntmps91
    go_wp2
    go_ret
    exact ⟨ret_i (by rw [← G.out]; unfold goFlo; rw [if_neg (by intro hh; exact hh.1 HM.out)]), rfl⟩
  · have HM : Hid (a.tmod b ≠ 0) := hm
    have m1 : (a.tmod b == 0) = false := by simpa using hm
    have m2 : (a.tmod b != 0) = true := by simpa using hm
    clear hm
    by_cases ha : a < 0 <;> by_cases hb2 : b < 0
    · have A1 : Hid (a < 0) := ha
      have B1 : Hid (b < 0) := hb2
      have d1 : decide (a < 0) = true := by simpa using ha
      have d2 : decide (b < 0) = true := by simpa using hb2
      clear ha hb2
      go_enter Try.func91, Try.ntmps91
      go_wp2
      go_ret
      exact ⟨ret_i (by have := A1.out; have := B1.out; rw [← G.out]; unfold goFlo; rw [if_neg (by omega)]), rfl⟩
    · have A1 : Hid (a < 0) := ha
      have B1 : Hid (¬ b < 0) := hb2
      have d1 : decide (a < 0) = true := by simpa using ha
      have d2 : decide (b < 0) = false := by simpa using hb2
      clear ha hb2
      go_enter Try.func91, Try.ntmps91
      go_wp2
      go_ret
      exact ⟨ret_i (by have := A1.out; have := B1.out; rw [← G.out]; unfold goFlo; rw [if_pos ⟨HM.out, by omega⟩]), rfl⟩
    · have A1 : Hid (¬ a < 0) := ha
      have B1 : Hid (b < 0) := hb2
      have d1 : decide (a < 0) = false := by simpa using ha
      have d2 : decide (b < 0) = true := by simpa using hb2
      clear ha hb2
      go_enter Try.func91, Try.ntmps91
      go_wp2
      go_ret
      exact ⟨ret_i (by have := A1.out; have := B1.out; rw [← G.out]; unfold goFlo; rw [if_pos ⟨HM.out, by omega⟩]), rfl⟩
    · have A1 : Hid (¬ a < 0) := ha
      have B1 : Hid (¬ b < 0) := hb2
      have d1 : decide (a < 0) = false := by simpa using ha
      have d2 : decide (b < 0) = false := by simpa using hb2
      clear ha hb2
      go_enter Try.func91, Try.ntmps91
      go_wp2
      go_ret
      exact ⟨ret_i (by have := A1.out; have := B1.out; rw [← G.out]; unfold goFlo; rw [if_neg (by omega)]), rfl⟩
theorem celS (a b : Int) (w : World) (h : -9000000000000000000 ≤ a) (h' : a ≤ 9000000000000000000) (hb : ¬ b = 0) : Calls Try.prog 94 #[.int .i64 a, .int .i64 b] w fun e w' => e = .returned (.int .i64 (cel a b)) ∧ w = w' := by
  have hq := flo_bd (a := -a) (b := b) hb
  have q2 : -9000000000000000001 ≤ flo (-a) b := by omega
  have q3 : flo (-a) b ≤ 9000000000000000000 := by omega
  clear hq
  go_enter Try.func94, Try.ntmps94
  go_wp2_with (go_at_call 93; refine (floS _ _ _ (by omega) (by omega) hb).mono ?_; rintro e w' ⟨rfl, rfl⟩)
  go_ret
  exact ⟨rfl, rfl⟩
theorem celI (a b : Int) (w : World) (h : -9000000000000000000 ≤ a) (h' : a ≤ 9000000000000000000) (hb : ¬ b = 0) : Calls Try.prog 92 #[.int .i64 a, .int .i64 b] w fun e w' => e = .returned (.int .i64 (cel a b)) ∧ w = w' := by
  have hq := flo_bd (a := -a) (b := b) hb
  have q2 : -9000000000000000001 ≤ flo (-a) b := by omega
  have q3 : flo (-a) b ≤ 9000000000000000000 := by omega
  clear hq
  go_enter Try.func92, Try.ntmps92
  go_wp2_with (go_at_call 91; refine (floI _ _ _ (by omega) (by omega) hb).mono ?_; rintro e w' ⟨rfl, rfl⟩)
  go_ret
  exact ⟨rfl, rfl⟩
theorem qcI (a b : Int) (w : World) : Calls Try.prog 95 #[.int .i64 a, .int .i64 b] w fun e w' => e = .returned (.int .i64 (qc a b)) ∧ w = w' := by
  rcases ha : isV a <;> rcases hb : isV b <;> rcases hz : (b == 0)
  all_goals
    go_enter Try.func95, Try.ntmps95
    go_wp2_with (go_at_call 110; refine (isI _ _).mono ?_; rintro e w' ⟨rfl, rfl⟩)
    go_ret
    exact ⟨ret_i (by simp [qc, ha, hb]; try simpa using hz), rfl⟩
end Go.Proofs.Ytincelkcbdjcjaa
