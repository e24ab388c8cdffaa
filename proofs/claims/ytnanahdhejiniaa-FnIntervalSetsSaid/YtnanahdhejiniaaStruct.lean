/- Contracts of functions on structs of numbers: intervals, ratios, directions. -/
import Derived.Test.YtnanahdhejiniaaQuo
namespace Go.Proofs.Ytnanahdhejiniaa
open Go.RowKit
set_option linter.unusedVariables false

theorem qSame {P : Program} {f : FuncId} {args : Array Value} {w : World} {n : Nat} {v : Value}
    (h : Calls P f args (w.drewN n) fun e w' => e = .returned v ∧ w.drewN n = w') : Calls P f args (w.drewN n) fun e w'' => e = .returned v ∧ ∃ m, w'' = w.drewN m :=
  h.mono fun _ _ ⟨he, hm⟩ => ⟨he, n, hm.symm⟩
def isIv (l h : Int) : Bool := isV l && isV h && decide (l ≤ h)
def isRat (n d : Int) : Bool := inB n (-1000000000) 1000000000 && inB d 1 1000000000 && ((Int.gcd n d : Int) == 1)

theorem isIvS (l h : Int) (w : World) : Calls Try.prog 26 #[.agg #[.int .i64 l, .int .i64 h]] w fun e w' => e = .returned (.bool (isIv l h)) ∧ Below w.heap.size w w' := by
  rcases h1 : isV l <;> rcases h2 : isV h
  all_goals
    go_enter Try.func26, Try.ntmps26
    go_wp2_with (first | (go_at_call 102; refine (isS _ _).mono ?_; rintro e w' ⟨rfl, rfl⟩))
    go_ret
    exact ⟨ret_b (by simp [isIv, h1, h2]), by (repeat' (first | (with_reducible exact Below.refl _ _) | (with_reducible assumption) | (with_reducible refine bStep ?_ (by with_reducible assumption)) | (with_reducible refine bAlloc ?_ _) | (with_reducible refine bDrew ?_) | (with_reducible refine bDrewN ?_ _) | (with_reducible refine Below.setCell ?_ ?_ _) | (with_reducible exact Nat.le_refl _) | (simp; done) | (simp; omega)))⟩
theorem isIvI (l h : Int) (w : World) : Calls Try.prog 25 #[.agg #[.int .i64 l, .int .i64 h]] w fun e w' => e = .returned (.bool (isIv l h)) ∧ Below w.heap.size w w' := by
  rcases h1 : isV l <;> rcases h2 : isV h
  all_goals
    go_enter Try.func25, Try.ntmps25
    go_wp2_with (first | (go_at_call 100; refine (isI _ _).mono ?_; rintro e w' ⟨rfl, rfl⟩))
    go_ret
    exact ⟨ret_b (by simp [isIv, h1, h2]), by (repeat' (first | (with_reducible exact Below.refl _ _) | (with_reducible assumption) | (with_reducible refine bStep ?_ (by with_reducible assumption)) | (with_reducible refine bAlloc ?_ _) | (with_reducible refine bDrew ?_) | (with_reducible refine bDrewN ?_ _) | (with_reducible refine Below.setCell ?_ ?_ _) | (with_reducible exact Nat.le_refl _) | (simp; done) | (simp; omega)))⟩

theorem contI (l h x : Int) (w : World) : Calls Try.prog 107 #[.agg #[.int .i64 l, .int .i64 h], .int .i64 x] w fun e w' => e = .returned (.bool (inB x l h)) ∧ Below w.heap.size w w' := by
  go_enter Try.func107, Try.ntmps107
  go_wp2_with (first | (go_at_call 123; refine (inI _ _ _ _).mono ?_; rintro e w' ⟨rfl, rfl⟩))
  go_ret
  exact ⟨rfl, by (repeat' (first | (with_reducible exact Below.refl _ _) | (with_reducible assumption) | (with_reducible refine bStep ?_ (by with_reducible assumption)) | (with_reducible refine bAlloc ?_ _) | (with_reducible refine bDrew ?_) | (with_reducible refine bDrewN ?_ _) | (with_reducible refine Below.setCell ?_ ?_ _) | (with_reducible exact Nat.le_refl _) | (simp; done) | (simp; omega)))⟩
theorem hasS (l h x : Int) (w : World) : Calls Try.prog 24 #[.agg #[.int .i64 l, .int .i64 h], .int .i64 x] w fun e w' => e = .returned (.bool (isIv l h && inB x l h)) ∧ Below w.heap.size w w' := by
  rcases h1 : isIv l h
  all_goals
    go_enter Try.func24, Try.ntmps24
    go_wp2_with (first | (go_at_call 26; refine (isIvS _ _ _).mono ?_; rintro e w1 ⟨rfl, hb1⟩; obtain ⟨hc1, hf1⟩ := bcell hb1; have hz1 := hb1.size) | (go_at_call 108; refine (inS _ _ _ _).mono ?_; rintro e w' ⟨rfl, rfl⟩))
    go_ret
    exact ⟨ret_b (by simp), by (repeat' (first | (with_reducible exact Below.refl _ _) | (with_reducible assumption) | (with_reducible refine bStep ?_ (by with_reducible assumption)) | (with_reducible refine bAlloc ?_ _) | (with_reducible refine bDrew ?_) | (with_reducible refine bDrewN ?_ _) | (with_reducible refine Below.setCell ?_ ?_ _) | (with_reducible exact Nat.le_refl _) | (simp; done) | (simp; omega)))⟩
theorem hasI (l h x : Int) (w : World) : Calls Try.prog 23 #[.agg #[.int .i64 l, .int .i64 h], .int .i64 x] w fun e w' => e = .returned (.bool (isIv l h && inB x l h)) ∧ Below w.heap.size w w' := by
  rcases h1 : isIv l h
  all_goals
    go_enter Try.func23, Try.ntmps23
    go_wp2_with (first | (go_at_call 25; refine (isIvI _ _ _).mono ?_; rintro e w1 ⟨rfl, hb1⟩; obtain ⟨hc1, hf1⟩ := bcell hb1; have hz1 := hb1.size) | (go_at_call 107; refine (contI _ _ _ _).mono ?_; rintro e w2 ⟨rfl, hb2⟩))
    go_ret
    exact ⟨ret_b (by simp), by (repeat' (first | (with_reducible exact Below.refl _ _) | (with_reducible assumption) | (with_reducible refine bStep ?_ (by with_reducible assumption)) | (with_reducible refine bAlloc ?_ _) | (with_reducible refine bDrew ?_) | (with_reducible refine bDrewN ?_ _) | (with_reducible refine Below.setCell ?_ ?_ _) | (with_reducible exact Nat.le_refl _) | (simp; done) | (simp; omega)))⟩
theorem isRatS (n d : Int) (w : World) : Calls Try.prog 62 #[.agg #[.int .i64 n, .int .i64 d]] w fun e w' => e = .returned (.bool (isRat n d)) ∧ Below w.heap.size w w' := by
  rcases h1 : inB n (-1000000000) 1000000000
  · go_enter Try.func62, Try.ntmps62
    go_wp2_with (first | (go_at_call 108; refine (inS _ _ _ _).mono ?_; rintro e w' ⟨rfl, rfl⟩))
    go_ret
    exact ⟨ret_b (by simp [isRat, h1]), by (repeat' (first | (with_reducible exact Below.refl _ _) | (with_reducible assumption) | (with_reducible refine bStep ?_ (by with_reducible assumption)) | (with_reducible refine bAlloc ?_ _) | (with_reducible refine bDrew ?_) | (with_reducible refine bDrewN ?_ _) | (with_reducible refine Below.setCell ?_ ?_ _) | (with_reducible exact Nat.le_refl _) | (simp; done) | (simp; omega)))⟩
  · rcases h2 : inB d 1 1000000000
    · go_enter Try.func62, Try.ntmps62
      go_wp2_with (first | (go_at_call 108; refine (inS _ _ _ _).mono ?_; rintro e w' ⟨rfl, rfl⟩))
      go_ret
      exact ⟨ret_b (by simp [isRat, h2]), by (repeat' (first | (with_reducible exact Below.refl _ _) | (with_reducible assumption) | (with_reducible refine bStep ?_ (by with_reducible assumption)) | (with_reducible refine bAlloc ?_ _) | (with_reducible refine bDrew ?_) | (with_reducible refine bDrewN ?_ _) | (with_reducible refine Below.setCell ?_ ?_ _) | (with_reducible exact Nat.le_refl _) | (simp; done) | (simp; omega)))⟩
    · have b1 := inB_t h1
      have b2 := inB_t h2
      go_enter Try.func62, Try.ntmps62
      go_wp2_with (first | (go_at_call 108; refine (inS _ _ _ _).mono ?_; rintro e w' ⟨rfl, rfl⟩) | (go_at_call 103; refine (gcdS _ _ _ (by omega) (by omega) (by omega) (by omega)).mono ?_; rintro e w' ⟨rfl, k, rfl⟩))
      go_ret
      exact ⟨ret_b (by simp [isRat, h1, h2]), by (repeat' (first | (with_reducible exact Below.refl _ _) | (with_reducible assumption) | (with_reducible refine bStep ?_ (by with_reducible assumption)) | (with_reducible refine bAlloc ?_ _) | (with_reducible refine bDrew ?_) | (with_reducible refine bDrewN ?_ _) | (with_reducible refine Below.setCell ?_ ?_ _) | (with_reducible exact Nat.le_refl _) | (simp; done) | (simp; omega)))⟩
theorem isRatI (n d : Int) (w : World) : Calls Try.prog 61 #[.agg #[.int .i64 n, .int .i64 d]] w fun e w' => e = .returned (.bool (isRat n d)) ∧ Below w.heap.size w w' := by
  rcases h1 : inB n (-1000000000) 1000000000
  · go_enter Try.func61, Try.ntmps61
    go_wp2_with (first | (go_at_call 123; refine (inI _ _ _ _).mono ?_; rintro e w' ⟨rfl, rfl⟩))
    go_ret
    exact ⟨ret_b (by simp [isRat, h1]), by (repeat' (first | (with_reducible exact Below.refl _ _) | (with_reducible assumption) | (with_reducible refine bStep ?_ (by with_reducible assumption)) | (with_reducible refine bAlloc ?_ _) | (with_reducible refine bDrew ?_) | (with_reducible refine bDrewN ?_ _) | (with_reducible refine Below.setCell ?_ ?_ _) | (with_reducible exact Nat.le_refl _) | (simp; done) | (simp; omega)))⟩
  · rcases h2 : inB d 1 1000000000
    · go_enter Try.func61, Try.ntmps61
      go_wp2_with (first | (go_at_call 123; refine (inI _ _ _ _).mono ?_; rintro e w' ⟨rfl, rfl⟩))
      go_ret
      exact ⟨ret_b (by simp [isRat, h2]), by (repeat' (first | (with_reducible exact Below.refl _ _) | (with_reducible assumption) | (with_reducible refine bStep ?_ (by with_reducible assumption)) | (with_reducible refine bAlloc ?_ _) | (with_reducible refine bDrew ?_) | (with_reducible refine bDrewN ?_ _) | (with_reducible refine Below.setCell ?_ ?_ _) | (with_reducible exact Nat.le_refl _) | (simp; done) | (simp; omega)))⟩
    · have b1 := inB_t h1
      have b2 := inB_t h2
      go_enter Try.func61, Try.ntmps61
      go_wp2_with (first | (go_at_call 123; refine (inI _ _ _ _).mono ?_; rintro e w' ⟨rfl, rfl⟩) | (go_at_call 101; refine (gcdI _ _ _ (by omega) (by omega) (by omega) (by omega)).mono ?_; rintro e w' ⟨rfl, k, rfl⟩))
      go_ret
      exact ⟨ret_b (by simp [isRat, h1, h2]), by (repeat' (first | (with_reducible exact Below.refl _ _) | (with_reducible assumption) | (with_reducible refine bStep ?_ (by with_reducible assumption)) | (with_reducible refine bAlloc ?_ _) | (with_reducible refine bDrew ?_) | (with_reducible refine bDrewN ?_ _) | (with_reducible refine Below.setCell ?_ ?_ _) | (with_reducible exact Nat.le_refl _) | (simp; done) | (simp; omega)))⟩

end Go.Proofs.Ytnanahdhejiniaa
