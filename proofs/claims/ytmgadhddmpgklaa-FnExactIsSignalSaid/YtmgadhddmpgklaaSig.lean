/- Contracts of functions on signals: validity, correlation, energy, sidelobe. -/
import Derived.Test.YtmgadhddmpgklaaCopy
namespace Go.Proofs.Ytmgadhddmpgklaa
open Go.RowKit
set_option linter.unusedVariables false

def absW (x : Int) : Int := if x < wrap64 (-x) then wrap64 (-x) else x
def maxW (a b : Int) : Int := if a < b then b else a
def sigB (xs : List Int) : Bool := allIn xs (-1000) 1000 && decide (xs.length ≤ 400)
def corrUp (xs : List Int) (s : Nat) : Nat → Int
  | 0 => 0
  | k + 1 => wrap64 (corrUp xs s k + wrap64 (xs.getD k 0 * xs.getD (k + s) 0))
def corr (xs : List Int) (s : Nat) : Int := corrUp xs s (xs.length - s)
def sideUp (xs : List Int) : Nat → Int
  | 0 => 0
  | k + 1 => maxW (sideUp xs k) (absW (corr xs (k + 1)))

def enV (xs : List Int) : Int := if sigB xs then corr xs 0 else 0
def sdV (xs : List Int) : Int := if sigB xs then sideUp xs (xs.length - 1) else 0
def sgC (xs : List Int) : Int := if sigB xs then 0 else 1
theorem sigS {w : World} {A : Option Addr} {n : Nat} {xs : List Int} (H : Ints .i64 w A n xs) (c : Nat) :
    Calls Try.prog 34 #[.slice A n c] w fun e w' => e = .returned (.bool (sigB xs)) ∧ w = w' := by
  go_enter Try.func34, Try.ntmps34
  go_wp2_with (go_at_call 51; refine (withS H _ _ _ _).mono ?_; rintro e w' ⟨rfl, rfl⟩)
  go_ret
  exact ⟨ret_b (by unfold sigB; rw [H.len]; congr 1; simp; omega), rfl⟩
theorem sigI {w : World} {A : Option Addr} {n : Nat} {xs : List Int} (H : Ints .i64 w A n xs) (c : Nat) :
    Calls Try.prog 35 #[.slice A n c] w fun e w' => e = .returned (.bool (sigB xs)) ∧ w = w' := by
  have hn := H.le
  have hl := Lib.hid H.len
  by_cases h : n ≤ 400
  · go_enter Try.func35, Try.ntmps35
    go_wp2_with (go_at_call 52; refine (areWI H _ _ _).mono ?_; rintro e w' ⟨rfl, rfl⟩)
    go_ret
    exact ⟨ret_b (by unfold sigB; rw [hl.out]; simp [h]), rfl⟩
  · go_enter Try.func35, Try.ntmps35
    go_wp2_with (go_at_call 52; refine (areWI H _ _ _).mono ?_; rintro e w' ⟨rfl, rfl⟩)
    go_ret
    exact ⟨ret_b (by unfold sigB; rw [hl.out]; simp; omega), rfl⟩
theorem absWS (x : Int) (w : World) : Calls Try.prog 64 #[.int .i64 x] w fun e w' => e = .returned (.int .i64 (absW x)) ∧ w = w' := by
  go_enter Try.func64, Try.ntmps64
  go_wp2
  · go_ret
    exact ⟨ret_i (by unfold absW; rw [if_pos (by assumption)]), rfl⟩
  · go_ret
    exact ⟨ret_i (by unfold absW; rw [if_neg (by omega)]), rfl⟩
theorem absWI (x : Int) (w : World) : Calls Try.prog 65 #[.int .i64 x] w fun e w' => e = .returned (.int .i64 (absW x)) ∧ w = w' := by
  go_enter Try.func65, Try.ntmps65
  go_wp2
  · go_ret
    exact ⟨ret_i (by unfold absW; rw [if_pos (by assumption)]), rfl⟩
  · go_ret
    exact ⟨ret_i (by unfold absW; rw [if_neg (by omega)]), rfl⟩
end Go.Proofs.Ytmgadhddmpgklaa
