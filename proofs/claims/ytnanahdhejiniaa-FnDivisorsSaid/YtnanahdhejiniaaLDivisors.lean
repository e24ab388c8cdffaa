/- The law on divisors. -/
import Derived.Test.YtnanahdhejiniaaDraw
import Derived.Test.YtnanahdhejiniaaDice
import Derived.Test.YtnanahdhejiniaaLawQ
namespace Go.Proofs.Ytnanahdhejiniaa
open Go.RowKit
set_option linter.unusedVariables false
variable {w : World}

theorem below_drew_of {a b : World} (h : ∃ n, b = a.drewN n) : Below a.heap.size a b := by obtain ⟨n, rfl⟩ := h; exact below_drewN (Below.refl _ _) n
set_option maxHeartbeats 1600000 in
theorem wDivisors (A : Option Addr) (n c : Nat) (zs : List Int) (H : Ints .u8 w A n zs) :
    Calls Try.prog 3 #[.slice A n c] w fun e w' => e = .returned (.bool true) ∧ Below w.heap.size w w' := by
  have hn := H.le
  by_cases hb : (4096 : Int) < (n : Int)
  · go_enter Try.func3, Try.ntmps3
    go_wp2_with (first | (go_at_call 15; refine (bigL _ _ _ _).mono ?_; rintro e w' ⟨rfl, rfl⟩))
    go_ret
    exact ⟨rfl, Below.refl _ _⟩
  go_enter Try.func3, Try.ntmps3
  go_wp2_with (first | (go_at_call 15; refine (bigL _ _ _ _).mono ?_; rintro e w' ⟨rfl, rfl⟩))
  refine (drCommonDivisor H c).mono ?_
  rintro e w1 ⟨x, y, rfl, ⟨hx, hy⟩, hB⟩
  rcases hok : cdvOk x y
  · have E1 : cdvC x y = 2 := by simp [cdvC, hok]
    go_wp2_with (first | (go_at_call 17; refine (cdI _ _ _).mono ?_; rintro e w2 ⟨rfl, q2, rfl⟩) | (go_at_call 18; refine (cdS _ _ _).mono ?_; rintro e w3 ⟨rfl, hq3⟩; have hb3 := below_drew_of hq3; clear hq3))
    go_ret
    exact ⟨rfl, by (repeat' (first | (with_reducible exact Below.refl _ _) | (with_reducible assumption) | (with_reducible refine Gr.bel (by with_reducible assumption) ?_ ?_) | (with_reducible refine bStep ?_ (by with_reducible assumption)) | (with_reducible refine bAlloc ?_ _) | (with_reducible refine bDrew ?_) | (with_reducible refine bDrewN ?_ _) | (with_reducible refine Below.setCell ?_ ?_ _) | (with_reducible exact Nat.le_refl _) | omega | (simp; done) | (simp; omega)))⟩
  have E1 : cdvC x y = 0 := by simp [cdvC, hok]
  have hg0 : cdv x y = (Int.gcd x y : Int) := by simp [cdv, hok]
  have vx : isV x = true ∧ isV y = true := by simpa [cdvOk] using hok
  have bx := isV_t vx.1
  have by_ := isV_t vx.2
  clear hok
  by_cases hz : Int.gcd x y = 0
  · obtain ⟨rfl, rfl⟩ := gcd_zero_l hz
    have E2 : cdv 0 0 = 0 := by rw [hg0, hz]; rfl
    clear hg0 hz
    go_wp2_with (first | (go_at_call 17; refine (cdI _ _ _).mono ?_; rintro e w2 ⟨rfl, q2, rfl⟩) | (go_at_call 18; refine (cdS _ _ _).mono ?_; rintro e w3 ⟨rfl, hq3⟩; have hb3 := below_drew_of hq3; clear hq3))
    go_ret
    exact ⟨rfl, by (repeat' (first | (with_reducible exact Below.refl _ _) | (with_reducible assumption) | (with_reducible refine Gr.bel (by with_reducible assumption) ?_ ?_) | (with_reducible refine bStep ?_ (by with_reducible assumption)) | (with_reducible refine bAlloc ?_ _) | (with_reducible refine bDrew ?_) | (with_reducible refine bDrewN ?_ _) | (with_reducible refine Below.setCell ?_ ?_ _) | (with_reducible exact Nat.le_refl _) | omega | (simp; done) | (simp; omega)))⟩
  have m1 := gcd_tmod_l x y
  have m2 := gcd_tdiv_l hz
  obtain ⟨g, hg⟩ : ∃ g : Int, (Int.gcd x y : Int) = g := ⟨_, rfl⟩
  rw [hg] at hg0 m1 m2
  have gz : ¬ g = 0 := by omega
  have gz' : (g == 0) = false := by simpa using gz
  have t1 := tdiv_abs x g
  have t2 := tdiv_abs y g
  obtain ⟨u, hu⟩ : ∃ u, x.tdiv g = u := ⟨_, rfl⟩
  obtain ⟨v, hv⟩ : ∃ v, y.tdiv g = v := ⟨_, rfl⟩
  rw [hu, hv] at m2
  rw [hu] at t1
  rw [hv] at t2
  have K : Hid (∀ w0 : World, Calls Try.prog 17 #[.int .i64 u, .int .i64 v] w0 fun e w' => e = .returned (.tuple #[.int .i64 1, .int .i64 0]) ∧ ∃ n, w' = w0.drewN n) := fun w0 => by
    have := cdI u v w0
    have k1 : cdvOk u v = true := by simp [cdvOk, isV_mk (x := u) (by omega), isV_mk (x := v) (by omega)]
    have k2 : cdv u v = 1 := by simp [cdv, k1, m2]
    have k3 : cdvC u v = 0 := by simp [cdvC, k1]
    rw [k2, k3] at this
    exact this
  have W1 : IntKind.i64.wrap u = u := IntWalk.i64_in _ (by omega)
  have W2 : IntKind.i64.wrap v = v := IntWalk.i64_in _ (by omega)
  obtain ⟨m1a, m1b⟩ := m1
  clear hg hz t1 t2 m2 vx
  go_wp2_with (first | (go_at_call 17; refine (cdI _ _ _).mono ?_; rintro e w2 ⟨rfl, q2, rfl⟩) | (go_at_call 18; refine (cdS _ _ _).mono ?_; rintro e w3 ⟨rfl, hq3⟩; have hb3 := below_drew_of hq3; clear hq3))
  go_quiet ((go_at_call 17; exact Calls.quiet_of (K.out _)))
  go_wp2
  go_ret
  exact ⟨rfl, by (repeat' (first | (with_reducible exact Below.refl _ _) | (with_reducible assumption) | (with_reducible refine Gr.bel (by with_reducible assumption) ?_ ?_) | (with_reducible refine bStep ?_ (by with_reducible assumption)) | (with_reducible refine bAlloc ?_ _) | (with_reducible refine bDrew ?_) | (with_reducible refine bDrewN ?_ _) | (with_reducible refine Below.setCell ?_ ?_ _) | (with_reducible exact Nat.le_refl _) | omega | (simp; done) | (simp; omega)))⟩
end Go.Proofs.Ytnanahdhejiniaa
