/- Contracts of the functions on numbers (no loops): ranges, absolute value, sign, quotients, codes. -/
import Derived.Test.YtmddcmgkmdkclaaChecked
import Derived.Test.YtmddcmgkmdkclaaMath
import Derived.WalkKit
import Derived.WalkSpells
import Derived.WalkLawsBesides
import Derived.Handy
namespace Go.Proofs.Ytmddcmgkmdkclaa
open Go.RowKit

/-- the code of a quotient -/
def qc (a b : Int) : Int := if isV a && isV b then (if b = 0 then 5 else 0) else 2

theorem ret_b {a b : Bool} (h : a = b) : Ending.returned (.bool a) = .returned (.bool b) := by rw [h]
theorem ret_i {k : IntKind} {a b : Int} (h : a = b) : Ending.returned (.int k a) = .returned (.int k b) := by rw [h]

theorem inS (x l h : Int) (w : World) : Calls Try.prog 70 #[.int .i64 x, .int .i64 l, .int .i64 h] w fun e w' => e = .returned (.bool (inB x l h)) ∧ w = w' := by
  go_enter Try.func70, Try.ntmps70
  go_wp2
  all_goals go_ret
  all_goals exact ⟨ret_b (by first | (simp [inB, *]; done) | (simp [inB, *]; omega)), rfl⟩
theorem inI (x l h : Int) (w : World) : Calls Try.prog 57 #[.int .i64 x, .int .i64 l, .int .i64 h] w fun e w' => e = .returned (.bool (inB x l h)) ∧ w = w' := by
  go_enter Try.func57, Try.ntmps57
  go_wp2
  all_goals go_ret
  all_goals exact ⟨ret_b (by first | (simp [inB, *]; done) | (simp [inB, *]; omega)), rfl⟩
theorem inSv {x l h : Int} {b : Bool} (hb : inB x l h = b) (w : World) : Calls Try.prog 70 #[.int .i64 x, .int .i64 l, .int .i64 h] w fun e w' => e = .returned (.bool b) ∧ w = w' := hb ▸ inS x l h w
theorem inIv {x l h : Int} {b : Bool} (hb : inB x l h = b) (w : World) : Calls Try.prog 57 #[.int .i64 x, .int .i64 l, .int .i64 h] w fun e w' => e = .returned (.bool b) ∧ w = w' := hb ▸ inI x l h w
theorem isS (x : Int) (w : World) : Calls Try.prog 66 #[.int .i64 x] w fun e w' => e = .returned (.bool (isV x)) ∧ w = w' := by
  go_enter Try.func66, Try.ntmps66
  go_wp2_with (go_at_call 70; refine (inS _ _ _ _).mono ?_; rintro e w' ⟨rfl, rfl⟩)
  go_ret
  exact ⟨rfl, rfl⟩
theorem isI (x : Int) (w : World) : Calls Try.prog 79 #[.int .i64 x] w fun e w' => e = .returned (.bool (isV x)) ∧ w = w' := by
  go_enter Try.func79, Try.ntmps79
  go_wp2_with (go_at_call 57; refine (inI _ _ _ _).mono ?_; rintro e w' ⟨rfl, rfl⟩)
  go_ret
  exact ⟨rfl, rfl⟩
theorem absS (x : Int) (w : World) (h : -9223372036854775807 ≤ x) (h' : x ≤ 9223372036854775807) : Calls Try.prog 71 #[.int .i64 x] w fun e w' => e = .returned (.int .i64 (iabs x)) ∧ w = w' := by
  go_enter Try.func71, Try.ntmps71
  go_wp2
  all_goals go_ret
  all_goals exact ⟨ret_i (by unfold iabs; omega), rfl⟩
theorem absI (x : Int) (w : World) (h : -9223372036854775807 ≤ x) (h' : x ≤ 9223372036854775807) : Calls Try.prog 72 #[.int .i64 x] w fun e w' => e = .returned (.int .i64 (iabs x)) ∧ w = w' := by
  go_enter Try.func72, Try.ntmps72
  go_wp2
  all_goals go_ret
  all_goals exact ⟨ret_i (by unfold iabs; omega), rfl⟩
end Go.Proofs.Ytmddcmgkmdkclaa
