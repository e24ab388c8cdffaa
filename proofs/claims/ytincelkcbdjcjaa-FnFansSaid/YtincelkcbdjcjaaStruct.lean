/- Contracts of functions on structs of numbers: intervals, ratios, directions. -/
import Derived.Test.YtincelkcbdjcjaaQuo
namespace Go.Proofs.Ytincelkcbdjcjaa
open Go.RowKit
set_option linter.unusedVariables false

theorem qSame {P : Program} {f : FuncId} {args : Array Value} {w : World} {n : Nat} {v : Value}
    (h : Calls P f args (w.drewN n) fun e w' => e = .returned v ∧ w.drewN n = w') : Calls P f args (w.drewN n) fun e w'' => e = .returned v ∧ ∃ m, w'' = w.drewN m :=
  h.mono fun _ _ ⟨he, hm⟩ => ⟨he, n, hm.symm⟩
def isIv (l h : Int) : Bool := isV l && isV h && decide (l ≤ h)
def isRat (n d : Int) : Bool := inB n (-1000000000) 1000000000 && inB d 1 1000000000 && ((Int.gcd n d : Int) == 1)

theorem isIvS (l h : Int) (w : World) : Calls Try.prog 89 #[.agg #[.int .i64 l, .int .i64 h]] w fun e w' => e = .returned (.bool (isIv l h)) ∧ Below w.heap.size w w' := by
  rcases h1 : isV l <;> rcases h2 : isV h
  all_goals
    go_enter Try.func89, Try.ntmps89
    go_wp2_with (first | (go_at_call 99; refine (isS _ _).mono ?_; rintro e w' ⟨rfl, rfl⟩))
    go_ret
    exact ⟨ret_b (by simp [isIv, h1, h2]), by (repeat' (first | (with_reducible exact Below.refl _ _) | (with_reducible assumption) | (with_reducible refine bStep ?_ (by with_reducible assumption)) | (with_reducible refine bAlloc ?_ _) | (with_reducible refine bDrew ?_) | (with_reducible refine bDrewN ?_ _) | (with_reducible refine Below.setCell ?_ ?_ _) | (with_reducible exact Nat.le_refl _) | (simp; done) | (simp; omega)))⟩
theorem isIvI (l h : Int) (w : World) : Calls Try.prog 76 #[.agg #[.int .i64 l, .int .i64 h]] w fun e w' => e = .returned (.bool (isIv l h)) ∧ Below w.heap.size w w' := by
  rcases h1 : isV l <;> rcases h2 : isV h
  all_goals
    go_enter Try.func76, Try.ntmps76
    go_wp2_with (first | (go_at_call 110; refine (isI _ _).mono ?_; rintro e w' ⟨rfl, rfl⟩))
    go_ret
    exact ⟨ret_b (by simp [isIv, h1, h2]), by (repeat' (first | (with_reducible exact Below.refl _ _) | (with_reducible assumption) | (with_reducible refine bStep ?_ (by with_reducible assumption)) | (with_reducible refine bAlloc ?_ _) | (with_reducible refine bDrew ?_) | (with_reducible refine bDrewN ?_ _) | (with_reducible refine Below.setCell ?_ ?_ _) | (with_reducible exact Nat.le_refl _) | (simp; done) | (simp; omega)))⟩

theorem contI (l h x : Int) (w : World) : Calls Try.prog 77 #[.agg #[.int .i64 l, .int .i64 h], .int .i64 x] w fun e w' => e = .returned (.bool (inB x l h)) ∧ Below w.heap.size w w' := by
  go_enter Try.func77, Try.ntmps77
  go_wp2_with (first | (go_at_call 60; refine (inI _ _ _ _).mono ?_; rintro e w' ⟨rfl, rfl⟩))
  go_ret
  exact ⟨rfl, by (repeat' (first | (with_reducible exact Below.refl _ _) | (with_reducible assumption) | (with_reducible refine bStep ?_ (by with_reducible assumption)) | (with_reducible refine bAlloc ?_ _) | (with_reducible refine bDrew ?_) | (with_reducible refine bDrewN ?_ _) | (with_reducible refine Below.setCell ?_ ?_ _) | (with_reducible exact Nat.le_refl _) | (simp; done) | (simp; omega)))⟩
theorem hasI (l h x : Int) (w : World) : Calls Try.prog 30 #[.agg #[.int .i64 l, .int .i64 h], .int .i64 x] w fun e w' => e = .returned (.bool (isIv l h && inB x l h)) ∧ Below w.heap.size w w' := by
  rcases h1 : isIv l h
  all_goals
    go_enter Try.func30, Try.ntmps30
    go_wp2_with (first | (go_at_call 76; refine (isIvI _ _ _).mono ?_; rintro e w1 ⟨rfl, hb1⟩; obtain ⟨hc1, hf1⟩ := bcell hb1; have hz1 := hb1.size) | (go_at_call 77; refine (contI _ _ _ _).mono ?_; rintro e w2 ⟨rfl, hb2⟩))
    go_ret
    exact ⟨ret_b (by simp), by (repeat' (first | (with_reducible exact Below.refl _ _) | (with_reducible assumption) | (with_reducible refine bStep ?_ (by with_reducible assumption)) | (with_reducible refine bAlloc ?_ _) | (with_reducible refine bDrew ?_) | (with_reducible refine bDrewN ?_ _) | (with_reducible refine Below.setCell ?_ ?_ _) | (with_reducible exact Nat.le_refl _) | (simp; done) | (simp; omega)))⟩

end Go.Proofs.Ytincelkcbdjcjaa
