/- Contracts of the functions on numbers (no loops): ranges, absolute value, sign, quotients, codes. -/
import Derived.Test.YtgnpbgknmapejaaDoorChecked
import Derived.Test.YtgnpbgknmapejaaDoorMath
import Derived.WalkKit
import Derived.WalkSpells
import Derived.WalkLawsBesides
import Derived.Handy
namespace Go.Proofs.YtgnpbgknmapejaaDoor
open Go.RowKit

/-- the code of a quotient -/
def qc (a b : Int) : Int := if isV a && isV b then (if b = 0 then 5 else 0) else 2

theorem ret_b {a b : Bool} (h : a = b) : Ending.returned (.bool a) = .returned (.bool b) := by rw [h]
theorem ret_i {k : IntKind} {a b : Int} (h : a = b) : Ending.returned (.int k a) = .returned (.int k b) := by rw [h]

theorem inS (x l h : Int) (w : World) : Calls Tryd.prog 91 #[.int .i64 x, .int .i64 l, .int .i64 h] w fun e w' => e = .returned (.bool (inB x l h)) ∧ w = w' := by
  go_enter Tryd.func91, Tryd.ntmps91
  go_wp2
  all_goals go_ret
  all_goals exact ⟨ret_b (by first | (simp [inB, *]; done) | (simp [inB, *]; omega)), rfl⟩
theorem inI (x l h : Int) (w : World) : Calls Tryd.prog 87 #[.int .i64 x, .int .i64 l, .int .i64 h] w fun e w' => e = .returned (.bool (inB x l h)) ∧ w = w' := by
  go_enter Tryd.func87, Tryd.ntmps87
  go_wp2
  all_goals go_ret
  all_goals exact ⟨ret_b (by first | (simp [inB, *]; done) | (simp [inB, *]; omega)), rfl⟩
theorem inSv {x l h : Int} {b : Bool} (hb : inB x l h = b) (w : World) : Calls Tryd.prog 91 #[.int .i64 x, .int .i64 l, .int .i64 h] w fun e w' => e = .returned (.bool b) ∧ w = w' := hb ▸ inS x l h w
theorem inIv {x l h : Int} {b : Bool} (hb : inB x l h = b) (w : World) : Calls Tryd.prog 87 #[.int .i64 x, .int .i64 l, .int .i64 h] w fun e w' => e = .returned (.bool b) ∧ w = w' := hb ▸ inI x l h w
theorem isS (x : Int) (w : World) : Calls Tryd.prog 72 #[.int .i64 x] w fun e w' => e = .returned (.bool (isV x)) ∧ w = w' := by
  go_enter Tryd.func72, Tryd.ntmps72
  go_wp2_with (go_at_call 91; refine (inS _ _ _ _).mono ?_; rintro e w' ⟨rfl, rfl⟩)
  go_ret
  exact ⟨rfl, rfl⟩
theorem isI (x : Int) (w : World) : Calls Tryd.prog 68 #[.int .i64 x] w fun e w' => e = .returned (.bool (isV x)) ∧ w = w' := by
  go_enter Tryd.func68, Tryd.ntmps68
  go_wp2_with (go_at_call 87; refine (inI _ _ _ _).mono ?_; rintro e w' ⟨rfl, rfl⟩)
  go_ret
  exact ⟨rfl, rfl⟩
theorem absS (x : Int) (w : World) (h : -9223372036854775807 ≤ x) (h' : x ≤ 9223372036854775807) : Calls Tryd.prog 73 #[.int .i64 x] w fun e w' => e = .returned (.int .i64 (iabs x)) ∧ w = w' := by
  go_enter Tryd.func73, Tryd.ntmps73
  go_wp2
  all_goals go_ret
  all_goals exact ⟨ret_i (by unfold iabs; omega), rfl⟩
theorem absI (x : Int) (w : World) (h : -9223372036854775807 ≤ x) (h' : x ≤ 9223372036854775807) : Calls Tryd.prog 94 #[.int .i64 x] w fun e w' => e = .returned (.int .i64 (iabs x)) ∧ w = w' := by
  go_enter Tryd.func94, Tryd.ntmps94
  go_wp2
  all_goals go_ret
  all_goals exact ⟨ret_i (by unfold iabs; omega), rfl⟩
end Go.Proofs.YtgnpbgknmapejaaDoor
