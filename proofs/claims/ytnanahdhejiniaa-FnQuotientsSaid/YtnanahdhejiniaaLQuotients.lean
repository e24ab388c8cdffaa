/- The law on quotients. -/
import Derived.Test.YtnanahdhejiniaaDraw
import Derived.Test.YtnanahdhejiniaaDice
import Derived.Test.YtnanahdhejiniaaLawQ
namespace Go.Proofs.Ytnanahdhejiniaa
open Go.RowKit
set_option linter.unusedVariables false
variable {w : World}

theorem quo_all {a b : Int} (hb : ¬ b = 0) : ((cel a b = flo a b ∧ a.tmod b = 0 ∧ flo a b * b = a ∧ nrV a b = flo a b) ∨ (cel a b = flo a b + 1 ∧ a.tmod b ≠ 0 ∧ (0 < b → flo a b * b < a ∧ a < (flo a b + 1) * b) ∧ (b < 0 → a < flo a b * b ∧ (flo a b + 1) * b < a) ∧ (nrV a b = flo a b ∨ nrV a b = flo a b + 1))) := by
  rcases Int.lt_or_le b 0 with h | h
  · have e1 : flo a b = flo (-a) (-b) := flo_neg a b h
    have e2 : cel a b = cel (-a) (-b) := by unfold cel; rw [flo_neg (-a) b h, Int.neg_neg]
    have e3 : nrV a b = nrst (-a) (-b) := by unfold nrV; rw [if_pos h]
    have e4 : a.tmod b = -((-a).tmod (-b)) := by rw [Int.neg_tmod, Int.tmod_neg]; omega
    have e5 : ∀ x : Int, x * b = -(x * (-b)) := fun x => by rw [Int.mul_neg, Int.neg_neg]
    rw [e1, e2, e3, e4, e5, e5]
    rcases quo_pos (a := -a) (b := -b) (by omega) with ⟨h1, h2, h3, h4⟩ | ⟨h1, h2, h3, h4, h5⟩
    · left
      rw [h2, h3]
      exact ⟨by omega, rfl, by omega, h4⟩
    · right
      have h6 : cel (-a) (-b) = flo (-a) (-b) + 1 := by omega
      rw [h6] at h4 h5
      exact ⟨h6, by omega, fun k => by omega, fun _ => by omega, h5⟩
  · have e3 : nrV a b = nrst a b := by unfold nrV; rw [if_neg (by omega)]
    rw [e3]
    rcases quo_pos (a := a) (b := b) (by omega) with ⟨h1, h2, h3, h4⟩ | ⟨h1, h2, h3, h4, h5⟩
    · left; exact ⟨by omega, h2, h3, h4⟩
    · right
      have h6 : cel a b = flo a b + 1 := by omega
      rw [h6] at h4 h5
      exact ⟨h6, h2, fun _ => ⟨h3, h4⟩, fun k => by omega, h5⟩
set_option maxHeartbeats 1600000 in
theorem wQuotients (A : Option Addr) (n c : Nat) (zs : List Int) (H : Ints .u8 w A n zs) :
    Calls Try.prog 5 #[.slice A n c] w fun e w' => e = .returned (.bool true) ∧ Below w.heap.size w w' := by
  have hn := H.le
  by_cases hb : (4096 : Int) < (n : Int)
  · go_enter Try.func5, Try.ntmps5
    go_wp2_with (first | (go_at_call 15; refine (bigL _ _ _ _).mono ?_; rintro e w' ⟨rfl, rfl⟩))
    go_ret
    exact ⟨rfl, Below.refl _ _⟩
  go_enter Try.func5, Try.ntmps5
  go_wp2_with (first | (go_at_call 15; refine (bigL _ _ _ _).mono ?_; rintro e w' ⟨rfl, rfl⟩))
  refine (drQuotientBounds H c).mono ?_
  rintro e w1 ⟨x, y, rfl, ⟨hx, hy⟩, hB⟩
  rcases qc_cases x y with h | h | h
  case inr.inl =>
    go_wp2_with (first | (go_at_call 30; refine (qbI _ _ _).mono ?_; rintro e w2 ⟨rfl, rfl⟩) | (go_at_call 31; refine (qbS _ _ _).mono ?_; rintro e w2 ⟨rfl, rfl⟩) | (go_at_call 32; refine (nqI _ _ _).mono ?_; rintro e w2 ⟨rfl, q2, rfl⟩) | (go_at_call 33; refine (nqS _ _ _).mono ?_; rintro e w2 ⟨rfl, q3, rfl⟩))
    go_ret
    exact ⟨rfl, by (repeat' (first | (with_reducible exact Below.refl _ _) | (with_reducible assumption) | (with_reducible refine Gr.bel (by with_reducible assumption) ?_ ?_) | (with_reducible refine bStep ?_ (by with_reducible assumption)) | (with_reducible refine bAlloc ?_ _) | (with_reducible refine bDrew ?_) | (with_reducible refine bDrewN ?_ _) | (with_reducible refine Below.setCell ?_ ?_ _) | (with_reducible exact Nat.le_refl _) | omega | (simp; done) | (simp; omega)))⟩
  case inr.inr =>
    go_wp2_with (first | (go_at_call 30; refine (qbI _ _ _).mono ?_; rintro e w2 ⟨rfl, rfl⟩) | (go_at_call 31; refine (qbS _ _ _).mono ?_; rintro e w2 ⟨rfl, rfl⟩) | (go_at_call 32; refine (nqI _ _ _).mono ?_; rintro e w2 ⟨rfl, q2, rfl⟩) | (go_at_call 33; refine (nqS _ _ _).mono ?_; rintro e w2 ⟨rfl, q3, rfl⟩))
    go_ret
    exact ⟨rfl, by (repeat' (first | (with_reducible exact Below.refl _ _) | (with_reducible assumption) | (with_reducible refine Gr.bel (by with_reducible assumption) ?_ ?_) | (with_reducible refine bStep ?_ (by with_reducible assumption)) | (with_reducible refine bAlloc ?_ _) | (with_reducible refine bDrew ?_) | (with_reducible refine bDrewN ?_ _) | (with_reducible refine Below.setCell ?_ ?_ _) | (with_reducible exact Nat.le_refl _) | omega | (simp; done) | (simp; omega)))⟩
  obtain ⟨vx, vy, yz⟩ := isV_zero h
  have bx := isV_t vx
  have by_ := isV_t vy
  have E1 : qbLo x y = flo x y := by simp [qbLo, h]
  have E2 : qbHi x y = cel x y := by simp [qbHi, h]
  have E3 : nqV x y = nrV x y := by simp [nqV, h]
  have Q := quo_all (a := x) yz
  have fb := flo_bd (a := x) (b := y) yz
  obtain ⟨lo, hlo⟩ : ∃ lo, flo x y = lo := ⟨_, rfl⟩
  obtain ⟨hi, hhi⟩ : ∃ hi, cel x y = hi := ⟨_, rfl⟩
  obtain ⟨m, hm⟩ : ∃ m, nrV x y = m := ⟨_, rfl⟩
  rw [hlo, hhi, hm] at Q
  rw [hlo] at fb E1
  rw [hhi] at E2
  rw [hm] at E3
  have fb' : -1000000000001 ≤ lo ∧ lo ≤ 1000000000000 := by omega
  clear hlo hhi hm vx vy fb
  have SG : y < 0 ∨ (¬ y < 0 ∧ 0 < y) := by omega
  rcases Q with ⟨rfl, hmd, hp, rfl⟩ | ⟨rfl, hmd, hp1, hp2, hm⟩
  · rcases SG with sg | ⟨sg, sg'⟩
    all_goals
      go_wp2_with (first | (go_at_call 30; refine (qbI _ _ _).mono ?_; rintro e w2 ⟨rfl, rfl⟩) | (go_at_call 31; refine (qbS _ _ _).mono ?_; rintro e w2 ⟨rfl, rfl⟩) | (go_at_call 32; refine (nqI _ _ _).mono ?_; rintro e w2 ⟨rfl, q2, rfl⟩) | (go_at_call 33; refine (nqS _ _ _).mono ?_; rintro e w2 ⟨rfl, q3, rfl⟩))
      go_ret
      exact ⟨rfl, by (repeat' (first | (with_reducible exact Below.refl _ _) | (with_reducible assumption) | (with_reducible refine Gr.bel (by with_reducible assumption) ?_ ?_) | (with_reducible refine bStep ?_ (by with_reducible assumption)) | (with_reducible refine bAlloc ?_ _) | (with_reducible refine bDrew ?_) | (with_reducible refine bDrewN ?_ _) | (with_reducible refine Below.setCell ?_ ?_ _) | (with_reducible exact Nat.le_refl _) | omega | (simp; done) | (simp; omega)))⟩
  · have md : (x.tmod y == 0) = false := by simpa using hmd
    have k1 : (lo + 1 == lo) = false := by simp; omega
    have k2 : (lo == lo + 1) = false := by simp; omega
    have k3 : (lo + 1 != lo) = true := by simp; omega
    obtain ⟨p, hp⟩ : ∃ p, lo * y = p := ⟨_, rfl⟩
    obtain ⟨q, hq⟩ : ∃ q, (lo + 1) * y = q := ⟨_, rfl⟩
    have hpq : q = p + y := by rw [← hq, ← hp, Int.add_mul]; omega
    rw [hp, hq] at hp1 hp2
    clear hmd
    rcases SG with sg | ⟨sg, sg'⟩
    · obtain ⟨r1, r2⟩ := hp2 sg
      have r3 : -3000000000000 ≤ p ∧ p ≤ 3000000000000 := by omega
      have r4 : -3000000000000 ≤ q ∧ q ≤ 3000000000000 := by omega
      have r5 : x ≤ p := by omega
      have r6 : q ≤ x := by omega
      clear hpq hp1 hp2
      rcases hm with rfl | rfl
      all_goals
        go_wp2_with (first | (go_at_call 30; refine (qbI _ _ _).mono ?_; rintro e w2 ⟨rfl, rfl⟩) | (go_at_call 31; refine (qbS _ _ _).mono ?_; rintro e w2 ⟨rfl, rfl⟩) | (go_at_call 32; refine (nqI _ _ _).mono ?_; rintro e w2 ⟨rfl, q2, rfl⟩) | (go_at_call 33; refine (nqS _ _ _).mono ?_; rintro e w2 ⟨rfl, q3, rfl⟩))
        go_ret
        exact ⟨rfl, by (repeat' (first | (with_reducible exact Below.refl _ _) | (with_reducible assumption) | (with_reducible refine Gr.bel (by with_reducible assumption) ?_ ?_) | (with_reducible refine bStep ?_ (by with_reducible assumption)) | (with_reducible refine bAlloc ?_ _) | (with_reducible refine bDrew ?_) | (with_reducible refine bDrewN ?_ _) | (with_reducible refine Below.setCell ?_ ?_ _) | (with_reducible exact Nat.le_refl _) | omega | (simp; done) | (simp; omega)))⟩
    · obtain ⟨r1, r2⟩ := hp1 sg'
      have r3 : -3000000000000 ≤ p ∧ p ≤ 3000000000000 := by omega
      have r4 : -3000000000000 ≤ q ∧ q ≤ 3000000000000 := by omega
      have r5 : p ≤ x := by omega
      have r6 : x ≤ q := by omega
      clear hpq hp1 hp2
      rcases hm with rfl | rfl
      all_goals
        go_wp2_with (first | (go_at_call 30; refine (qbI _ _ _).mono ?_; rintro e w2 ⟨rfl, rfl⟩) | (go_at_call 31; refine (qbS _ _ _).mono ?_; rintro e w2 ⟨rfl, rfl⟩) | (go_at_call 32; refine (nqI _ _ _).mono ?_; rintro e w2 ⟨rfl, q2, rfl⟩) | (go_at_call 33; refine (nqS _ _ _).mono ?_; rintro e w2 ⟨rfl, q3, rfl⟩))
        go_ret
        exact ⟨rfl, by (repeat' (first | (with_reducible exact Below.refl _ _) | (with_reducible assumption) | (with_reducible refine Gr.bel (by with_reducible assumption) ?_ ?_) | (with_reducible refine bStep ?_ (by with_reducible assumption)) | (with_reducible refine bAlloc ?_ _) | (with_reducible refine bDrew ?_) | (with_reducible refine bDrewN ?_ _) | (with_reducible refine Below.setCell ?_ ?_ _) | (with_reducible exact Nat.le_refl _) | omega | (simp; done) | (simp; omega)))⟩
end Go.Proofs.Ytnanahdhejiniaa
