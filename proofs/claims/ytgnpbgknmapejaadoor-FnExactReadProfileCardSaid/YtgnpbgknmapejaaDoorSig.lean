/- Contracts of functions on signals: validity, correlation, energy, sidelobe. -/
import Derived.Test.YtgnpbgknmapejaaDoorCopy
namespace Go.Proofs.YtgnpbgknmapejaaDoor
open Go.RowKit
set_option linter.unusedVariables false

def absW (x : Int) : Int := if x < wrap64 (-x) then wrap64 (-x) else x
def maxW (a b : Int) : Int := if a < b then b else a
def sigB (xs : List Int) : Bool := allIn xs (-1000) 1000 && decide (xs.length ≤ 400)
def corrUp (xs : List Int) (s : Nat) : Nat → Int
  | 0 => 0
  | k + 1 => wrap64 (corrUp xs s k + wrap64 (xs.getD k 0 * xs.getD (k + s) 0))
def corr (xs : List Int) (s : Nat) : Int := corrUp xs s (xs.length - s)
def sideUp (xs : List Int) : Nat → Int
  | 0 => 0
  | k + 1 => maxW (sideUp xs k) (absW (corr xs (k + 1)))

def enV (xs : List Int) : Int := if sigB xs then corr xs 0 else 0
def sdV (xs : List Int) : Int := if sigB xs then sideUp xs (xs.length - 1) else 0
def sgC (xs : List Int) : Int := if sigB xs then 0 else 1
theorem absWS (x : Int) (w : World) : Calls Tryd.prog 73 #[.int .i64 x] w fun e w' => e = .returned (.int .i64 (absW x)) ∧ w = w' := by
  go_enter Tryd.func73, Tryd.ntmps73
  go_wp2
  · go_ret
    exact ⟨ret_i (by unfold absW; rw [if_pos (by assumption)]), rfl⟩
  · go_ret
    exact ⟨ret_i (by unfold absW; rw [if_neg (by omega)]), rfl⟩
theorem absWI (x : Int) (w : World) : Calls Tryd.prog 94 #[.int .i64 x] w fun e w' => e = .returned (.int .i64 (absW x)) ∧ w = w' := by
  go_enter Tryd.func94, Tryd.ntmps94
  go_wp2
  · go_ret
    exact ⟨ret_i (by unfold absW; rw [if_pos (by assumption)]), rfl⟩
  · go_ret
    exact ⟨ret_i (by unfold absW; rw [if_neg (by omega)]), rfl⟩
end Go.Proofs.YtgnpbgknmapejaaDoor
