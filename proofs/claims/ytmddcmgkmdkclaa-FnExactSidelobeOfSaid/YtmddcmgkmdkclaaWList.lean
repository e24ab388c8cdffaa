/- The walks of the laws on one list of numbers: the program answers as the reference, and leaves its argument as it was. -/
import Derived.Test.YtmddcmgkmdkclaaSig
namespace Go.Proofs.Ytmddcmgkmdkclaa
open Go.RowKit
set_option linter.unusedVariables false
variable {w : World}

theorem wEnergyOf (A : Option Addr) (n c : Nat) (xs : List Int) (H : Ints .i64 w A n xs) : 
    Calls Try.prog 4 #[.slice A n c] w fun e w' => e = .returned (.bool true) ∧ Below w.heap.size w w' := by
  have hm := H.le
  by_cases hn : n ≤ 1048576
  · go_enter Try.func4, Try.ntmps4
    go_wp2_with fail
    refine (copyL H c hn).mono ?_
    rintro e w1 ⟨g1, rfl, hg1, I1, O1, B1⟩
    have H1 := H.below B1
    clear O1
    go_wp2_with fail
    refine (enS I1 _).mono ?_
    rintro e w2 ⟨rfl, q2, rfl⟩
    go_wp2_with fail
    refine (copyL (H1.drewN q2) c hn).mono ?_
    rintro e w3 ⟨g3, rfl, hg3, I3, O3, B3⟩
    have H3 := ((H1.drewN q2)).below B3
    clear O3
    go_wp2_with fail
    refine (enI I3 _).mono ?_
    rintro e w4 ⟨rfl, q4, rfl⟩
    go_wp2_with fail
    refine (copyL (H3.drewN q4) c hn).mono ?_
    rintro e w5 ⟨g5, rfl, hg5, I5, O5, B5⟩
    clear O5
    have I6 := (I3.drewN q4).below B5
    go_wp2_with fail
    refine (eqL I6 I5 _ _).mono ?_
    rintro e w6 ⟨rfl, q6, rfl⟩
    have e0 : (xs == xs) = true := by simp
    go_wp2
    go_ret
    exact ⟨rfl, by (repeat' (first | (with_reducible exact Below.refl _ _) | (with_reducible assumption) | (with_reducible refine bStep ?_ (by with_reducible assumption)) | (with_reducible refine bAlloc ?_ _) | (with_reducible refine bDrew ?_) | (with_reducible refine bDrewN ?_ _) | (with_reducible refine Below.setCell ?_ ?_ _) | (simp; omega)))⟩
  · go_enter Try.func4, Try.ntmps4
    go_wp2
    go_ret
    exact ⟨rfl, Below.refl _ _⟩
theorem wSidelobeOf (A : Option Addr) (n c : Nat) (xs : List Int) (H : Ints .i64 w A n xs) : 
    Calls Try.prog 5 #[.slice A n c] w fun e w' => e = .returned (.bool true) ∧ Below w.heap.size w w' := by
  have hm := H.le
  by_cases hn : n ≤ 1048576
  · go_enter Try.func5, Try.ntmps5
    go_wp2_with fail
    refine (copyL H c hn).mono ?_
    rintro e w1 ⟨g1, rfl, hg1, I1, O1, B1⟩
    have H1 := H.below B1
    clear O1
    go_wp2_with fail
    refine (sideOfS I1 _).mono ?_
    rintro e w2 ⟨rfl, q2, rfl⟩
    go_wp2_with fail
    refine (copyL (H1.drewN q2) c hn).mono ?_
    rintro e w3 ⟨g3, rfl, hg3, I3, O3, B3⟩
    have H3 := ((H1.drewN q2)).below B3
    clear O3
    go_wp2_with fail
    refine (sideOfI I3 _).mono ?_
    rintro e w4 ⟨rfl, q4, rfl⟩
    go_wp2_with fail
    refine (copyL (H3.drewN q4) c hn).mono ?_
    rintro e w5 ⟨g5, rfl, hg5, I5, O5, B5⟩
    clear O5
    have I6 := (I3.drewN q4).below B5
    go_wp2_with fail
    refine (eqL I6 I5 _ _).mono ?_
    rintro e w6 ⟨rfl, q6, rfl⟩
    have e0 : (xs == xs) = true := by simp
    go_wp2
    go_ret
    exact ⟨rfl, by (repeat' (first | (with_reducible exact Below.refl _ _) | (with_reducible assumption) | (with_reducible refine bStep ?_ (by with_reducible assumption)) | (with_reducible refine bAlloc ?_ _) | (with_reducible refine bDrew ?_) | (with_reducible refine bDrewN ?_ _) | (with_reducible refine Below.setCell ?_ ?_ _) | (simp; omega)))⟩
  · go_enter Try.func5, Try.ntmps5
    go_wp2
    go_ret
    exact ⟨rfl, Below.refl _ _⟩
end Go.Proofs.Ytmddcmgkmdkclaa
