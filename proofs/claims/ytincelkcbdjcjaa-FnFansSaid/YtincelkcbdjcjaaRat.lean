/- Contracts of functions on ratios and of comparisons. -/
import Derived.Test.YtincelkcbdjcjaaStruct
namespace Go.Proofs.Ytincelkcbdjcjaa
open Go.RowKit
set_option linter.unusedVariables false

def cmpP (x y : Int) : Int := if x < y then -1 else if y < x then 1 else 0
def sgn (x : Int) : Int := cmpP x 0
theorem sgn_sub (x y : Int) : sgn (x - y) = cmpP x y := by
  unfold sgn cmpP
  by_cases h : x < y
  · rw [if_pos (by omega), if_pos h]
  · rw [if_neg (by omega), if_neg h]
    by_cases h2 : y < x
    · rw [if_pos (by omega), if_pos h2]
    · rw [if_neg (by omega), if_neg h2]
/-- numerator, denominator of a quotient in lowest terms, with a positive denominator -/
def pN (n d : Int) : Int := if d < 0 then -(n.tdiv (Int.gcd n d)) else n.tdiv (Int.gcd n d)
def pD (n d : Int) : Int := if d < 0 then -(d.tdiv (Int.gcd n d)) else d / Int.gcd n d
def mkOk (n d : Int) : Bool := isRat (pN n d) (pD n d)
def mkN (n d : Int) : Int := if mkOk n d then pN n d else 0
def mkD (n d : Int) : Int := if mkOk n d then pD n d else 0
def mkC (n d c : Int) : Int := if mkOk n d then 0 else c
theorem gcd_pos {n d : Int} (h : ¬ d = 0) : 1 ≤ (Int.gcd n d : Int) ∧ (Int.gcd n d : Int) ≤ d.natAbs := by
  have h1 := Nat.gcd_pos_of_pos_right n.natAbs (show 0 < d.natAbs by omega)
  have h2 := Nat.le_of_dvd (show 0 < d.natAbs by omega) (Nat.gcd_dvd_right n.natAbs d.natAbs)
  exact ⟨by exact_mod_cast h1, by exact_mod_cast h2⟩
theorem below_of_drewN (w : World) (n : Nat) : Below w.heap.size w (w.drewN n) := below_drewN (Below.refl _ _) n

theorem signI (x : Int) (w : World) : Calls Try.prog 105 #[.int .i64 x] w fun e w' => e = .returned (.int .i64 (sgn x)) ∧ w = w' := by
  rcases (by omega : x ≤ -1 ∨ x = 0 ∨ 1 ≤ x) with h | h | h
  · have g : x < 1 := by omega
    go_enter Try.func105, Try.ntmps105
    go_wp2
    all_goals (go_ret; exact ⟨ret_i (by unfold sgn cmpP; rw [if_pos (by omega)]; try omega), rfl⟩)
  · subst h
    go_enter Try.func105, Try.ntmps105
    go_wp2
    all_goals (go_ret; exact ⟨ret_i rfl, rfl⟩)
  · have g : ¬ x < 1 := by omega
    go_enter Try.func105, Try.ntmps105
    go_wp2
    all_goals (go_ret; exact ⟨ret_i (by unfold sgn cmpP; rw [if_neg (by omega), if_pos (by omega)]), rfl⟩)
end Go.Proofs.Ytincelkcbdjcjaa
