/- Quotients rounded to the nearest integer: contracts, and the walk of the law. -/
import Derived.Test.YtnanahdhejiniaaQuo
import Derived.Test.YtnanahdhejiniaaRat
import Derived.IntWalk
namespace Go.Proofs.Ytnanahdhejiniaa
open Go.RowKit
set_option linter.unusedVariables false

theorem and_one_i64 (q : Int) : bits BinOp.and IntKind.i64 q 1 = q % 2 := by
  show IntKind.i64.wrap ((BitVec.ofInt 64 q &&& BitVec.ofInt 64 1).toNat : Int) = _
  have h1 : (BitVec.ofInt 64 1).toNat = 1 := by decide
  rw [BitVec.toNat_and, h1, Nat.and_one_is_mod, BitVec.toNat_ofInt]
  rw [IntWalk.i64_in _ (by omega)]
  omega
/-- the nearest integer, of two the even one; the divisor is greater than nought -/
def nrst (x y : Int) : Int := if y < 2 * (x - flo x y * y) ∨ (2 * (x - flo x y * y) = y ∧ ¬ flo x y % 2 = 0) then flo x y + 1 else flo x y
def nrV (a b : Int) : Int := if b < 0 then nrst (-a) (-b) else nrst a b
def nqV (a b : Int) : Int := if qc a b = 0 then nrV a b else 0
theorem flo_two (q : Int) : flo q 2 = q / 2 := by unfold flo; rw [if_neg (by omega)]
theorem near_facts {x y : Int} (hy : 0 < y) (hx : -1000000000000 ≤ x ∧ x ≤ 1000000000000) (hy' : y ≤ 1000000000000) :
    ∃ q p : Int, flo x y = q ∧ q * y = p ∧ (p ≤ x ∧ x < p + y) ∧ (-1000000000001 ≤ q ∧ q ≤ 1000000000000) ∧ -2000000000001 ≤ p := by
  have h1 := flo_pos (a := x) hy
  have h2 := flo_bd (a := x) (b := y) (by omega)
  exact ⟨_, _, rfl, rfl, h1, by omega, by omega⟩
theorem nrst_up {x y q p : Int} (h : flo x y = q) (hp : q * y = p) (c : y < 2 * (x - p) ∨ (2 * (x - p) = y ∧ ¬ q % 2 = 0)) : nrst x y = q + 1 := by
  unfold nrst; rw [h, hp, if_pos c]
theorem nrst_dn {x y q p : Int} (h : flo x y = q) (hp : q * y = p) (c : ¬ (y < 2 * (x - p) ∨ (2 * (x - p) = y ∧ ¬ q % 2 = 0))) : nrst x y = q := by
  unfold nrst; rw [h, hp, if_neg c]
set_option maxHeartbeats 800000 in
theorem nearS0 (x y : Int) (sg : Bool) (w : World) (hy : 0 < y) (hx : -1000000000000 ≤ x ∧ x ≤ 1000000000000) (hy' : y ≤ 1000000000000) :
    Calls Try.prog 118 #[.int .i64 (if sg then -x else x), .int .i64 (if sg then -y else y)] w fun e w' => e = .returned (.int .i64 (nrst x y)) ∧ ∃ n, w' = w.drewN n := by
  obtain ⟨q, p, hq, hp, ⟨p1, p2⟩, ⟨q1, q2⟩, p3⟩ := near_facts (x := x) (y := y) hy hx hy'
  have HQ := Lib.hid hq
  have HPU := Lib.hid (nrst_up hq hp)
  have HPD := Lib.hid (nrst_dn hq hp)
  have K1 : Hid (∀ w0 : World, Calls Try.prog 113 #[.int .i64 x, .int .i64 y] w0 fun e w' => e = .returned (.int .i64 q) ∧ w0 = w') := fun w0 => by
    have := floS x y w0 (by omega) (by omega) (by omega)
    rw [hq] at this
    exact this
  obtain ⟨t, ht⟩ : ∃ t, q / 2 = t := ⟨_, rfl⟩
  have K2 : Hid (∀ w0 : World, Calls Try.prog 113 #[.int .i64 q, .int .i64 2] w0 fun e w' => e = .returned (.int .i64 t) ∧ w0 = w') := fun w0 => by
    have := floS q 2 w0 (by omega) (by omega) (by omega)
    rw [flo_two, ht] at this
    exact this
  have t1 : -600000000000 ≤ t ∧ t ≤ 600000000000 := by omega
  have E : (¬ q % 2 = 0 → (t * 2 != q) = true) ∧ (q % 2 = 0 → (t * 2 != q) = false) := by
    constructor
    · intro h; simp; omega
    · intro h; simp; omega
  have E1 := E.1
  have E2 := E.2
  have D : (0 < 2 * (x - p) - y) ∨ (2 * (x - p) - y = 0 ∧ ¬ q % 2 = 0) ∨ (2 * (x - p) - y = 0 ∧ q % 2 = 0) ∨ (2 * (x - p) - y < 0) := by omega
  have G1 : Hid (0 < 2 * (x - p) - y → nrst x y = q + 1) := fun h => HPU.out (by omega)
  have G2 : Hid (2 * (x - p) - y = 0 ∧ ¬ q % 2 = 0 → nrst x y = q + 1) := fun h => HPU.out (by omega)
  have G3 : Hid (2 * (x - p) - y = 0 ∧ q % 2 = 0 → nrst x y = q) := fun h => HPD.out (by omega)
  have G4 : Hid (2 * (x - p) - y < 0 → nrst x y = q) := fun h => HPD.out (by omega)
  clear hq ht E
  obtain ⟨r, hr⟩ : ∃ r, 2 * (x - p) - y = r := ⟨_, rfl⟩
  rw [hr] at D G1 G2 G3 G4
  have r1 : -4000000000000 ≤ r ∧ r ≤ 4000000000000 := by omega
  rcases D with d | ⟨d, d'⟩ | ⟨d, d'⟩ | d
  · have V := Lib.hid (G1.out d)
    have b1 : decide (0 < r) = true := by simpa using d
    clear E1 E2 G1 G2 G3 G4
    cases sg
    all_goals
      go_enter Try.func118, Try.ntmps118
      go_wp2_with (first | (go_at_call 113; first | (with_reducible refine (K1.out _).mono ?_; rintro e w' ⟨rfl, rfl⟩) | (with_reducible refine (K2.out _).mono ?_; rintro e w' ⟨rfl, rfl⟩)))
      try go_region
      all_goals (go_wp2_with (first | (go_at_call 113; first | (with_reducible refine (K1.out _).mono ?_; rintro e w' ⟨rfl, rfl⟩) | (with_reducible refine (K2.out _).mono ?_; rintro e w' ⟨rfl, rfl⟩))))
      all_goals go_ret
      all_goals exact ⟨ret_i (by rw [V.out]), by first | exact ⟨0, rfl⟩ | exact ⟨1, rfl⟩ | exact ⟨_, rfl⟩⟩
  · have V := Lib.hid (G2.out ⟨d, d'⟩)
    have e1 := E1 d'
    have b1 : decide (0 < r) = false := by simp; omega
    have b2 : ¬ 0 < r := by omega
    have b3 : (r == 0) = true := by simpa using d
    clear E1 E2 G1 G2 G3 G4 d d'
    cases sg
    all_goals
      go_enter Try.func118, Try.ntmps118
      go_wp2_with (first | (go_at_call 113; first | (with_reducible refine (K1.out _).mono ?_; rintro e w' ⟨rfl, rfl⟩) | (with_reducible refine (K2.out _).mono ?_; rintro e w' ⟨rfl, rfl⟩)))
      try go_region
      all_goals (go_wp2_with (first | (go_at_call 113; first | (with_reducible refine (K1.out _).mono ?_; rintro e w' ⟨rfl, rfl⟩) | (with_reducible refine (K2.out _).mono ?_; rintro e w' ⟨rfl, rfl⟩))))
      all_goals go_ret
      all_goals exact ⟨ret_i (by rw [V.out]), by first | exact ⟨0, rfl⟩ | exact ⟨1, rfl⟩ | exact ⟨_, rfl⟩⟩
  · have V := Lib.hid (G3.out ⟨d, d'⟩)
    have e1 := E2 d'
    have b1 : decide (0 < r) = false := by simp; omega
    have b2 : ¬ 0 < r := by omega
    have b3 : (r == 0) = true := by simpa using d
    clear E1 E2 G1 G2 G3 G4 d d'
    cases sg
    all_goals
      go_enter Try.func118, Try.ntmps118
      go_wp2_with (first | (go_at_call 113; first | (with_reducible refine (K1.out _).mono ?_; rintro e w' ⟨rfl, rfl⟩) | (with_reducible refine (K2.out _).mono ?_; rintro e w' ⟨rfl, rfl⟩)))
      try go_region
      all_goals (go_wp2_with (first | (go_at_call 113; first | (with_reducible refine (K1.out _).mono ?_; rintro e w' ⟨rfl, rfl⟩) | (with_reducible refine (K2.out _).mono ?_; rintro e w' ⟨rfl, rfl⟩))))
      all_goals go_ret
      all_goals exact ⟨ret_i (by rw [V.out]), by first | exact ⟨0, rfl⟩ | exact ⟨1, rfl⟩ | exact ⟨_, rfl⟩⟩
  · have V := Lib.hid (G4.out d)
    have b1 : decide (0 < r) = false := by simp; omega
    have b2 : ¬ 0 < r := by omega
    have b3 : (r == 0) = false := by simp; omega
    clear E1 E2 G1 G2 G3 G4
    cases sg
    all_goals
      go_enter Try.func118, Try.ntmps118
      go_wp2_with (first | (go_at_call 113; first | (with_reducible refine (K1.out _).mono ?_; rintro e w' ⟨rfl, rfl⟩) | (with_reducible refine (K2.out _).mono ?_; rintro e w' ⟨rfl, rfl⟩)))
      try go_region
      all_goals (go_wp2_with (first | (go_at_call 113; first | (with_reducible refine (K1.out _).mono ?_; rintro e w' ⟨rfl, rfl⟩) | (with_reducible refine (K2.out _).mono ?_; rintro e w' ⟨rfl, rfl⟩))))
      all_goals go_ret
      all_goals exact ⟨ret_i (by rw [V.out]), by first | exact ⟨0, rfl⟩ | exact ⟨1, rfl⟩ | exact ⟨_, rfl⟩⟩
theorem nearS (a b : Int) (w : World) (hz : ¬ b = 0) (ha : -1000000000000 ≤ a ∧ a ≤ 1000000000000) (hb : -1000000000000 ≤ b ∧ b ≤ 1000000000000) :
    Calls Try.prog 118 #[.int .i64 a, .int .i64 b] w fun e w' => e = .returned (.int .i64 (nrV a b)) ∧ ∃ n, w' = w.drewN n := by
  unfold nrV
  by_cases h : b < 0
  · have := nearS0 (-a) (-b) true w (by omega) (by omega) (by omega)
    rw [if_pos h]
    simpa using this
  · have := nearS0 a b false w (by omega) (by omega) (by omega)
    rw [if_neg h]
    simpa using this
theorem nqS (a b : Int) (w : World) : Calls Try.prog 33 #[.int .i64 a, .int .i64 b] w fun e w' => e = .returned (.tuple #[.int .i64 (nqV a b), .int .i64 (qc a b)]) ∧ ∃ n, w' = w.drewN n := by
  rcases qc_cases a b with h | h | h
  · obtain ⟨h1, h2, h3⟩ := isV_zero h
    have h1' := isV_t h1
    have h2' := isV_t h2
    have H := Lib.hid h
    go_enter Try.func33, Try.ntmps33
    go_wp2_with (first | (go_at_call 112; refine (qcS _ _ _).mono ?_; rintro e w' ⟨rfl, rfl⟩) | (go_at_call 118; refine (nearS _ _ _ h3 (by omega) (by omega)).mono ?_; rintro e w' ⟨rfl, n, rfl⟩))
    go_ret2
    exact ⟨by simp [nqV, H.out], _, rfl⟩
  all_goals
    go_enter Try.func33, Try.ntmps33
    go_wp2_with (first | (go_at_call 112; refine (qcS _ _ _).mono ?_; rintro e w' ⟨rfl, rfl⟩))
    go_ret2
    exact ⟨by simp [nqV, h], 0, rfl⟩
theorem nearI (x y : Int) (w : World) (hy : 0 < y) (hx : -1000000000000 ≤ x ∧ x ≤ 1000000000000) (hy' : y ≤ 1000000000000) :
    Calls Try.prog 115 #[.int .i64 x, .int .i64 y] w fun e w' => e = .returned (.int .i64 (nrst x y)) ∧ w = w' := by
  obtain ⟨q, p, hq, hp, ⟨p1, p2⟩, ⟨q1, q2⟩, p3⟩ := near_facts (x := x) (y := y) hy hx hy'
  have HQ := Lib.hid hq
  have HPU := Lib.hid (nrst_up hq hp)
  have HPD := Lib.hid (nrst_dn hq hp)
  have K1 : Hid (∀ w0 : World, Calls Try.prog 110 #[.int .i64 x, .int .i64 y] w0 fun e w' => e = .returned (.int .i64 q) ∧ w0 = w') := fun w0 => by
    have := floI x y w0 (by omega) (by omega) (by omega)
    rw [hq] at this
    exact this
  have A1 := and_one_i64 q
  obtain ⟨t, ht⟩ : ∃ t, q % 2 = t := ⟨_, rfl⟩
  rw [ht] at A1
  have t1 : t = 0 ∨ t = 1 := by omega
  have D : (y < 2 * (x - p)) ∨ (2 * (x - p) = y ∧ t = 1) ∨ (2 * (x - p) = y ∧ t = 0) ∨ (2 * (x - p) < y) := by omega
  have G1 : Hid (y < 2 * (x - p) → nrst x y = q + 1) := fun h => HPU.out (by omega)
  have G2 : Hid (2 * (x - p) = y ∧ t = 1 → nrst x y = q + 1) := fun h => HPU.out (by omega)
  have G3 : Hid (2 * (x - p) = y ∧ t = 0 → nrst x y = q) := fun h => HPD.out (by omega)
  have G4 : Hid (2 * (x - p) < y → nrst x y = q) := fun h => HPD.out (by omega)
  clear hq ht
  obtain ⟨r, hr⟩ : ∃ r, x - p = r := ⟨_, rfl⟩
  rw [hr] at D G1 G2 G3 G4
  have r1 : 0 ≤ r ∧ r < y := by omega
  rcases D with d | ⟨d, rfl⟩ | ⟨d, rfl⟩ | d
  · have V := Lib.hid (G1.out d)
    have b1 : y - r < r := by omega
    clear G1 G2 G3 G4
    go_enter Try.func115, Try.ntmps115
    go_wp2_with (first | (go_at_call 110; refine (K1.out _).mono ?_; rintro e w' ⟨rfl, rfl⟩))
    go_ret
    exact ⟨ret_i (by rw [V.out]), rfl⟩
  · have V := Lib.hid (G2.out ⟨d, rfl⟩)
    have b2 : ¬ y - r < r := by omega
    have b3 : (r == y - r) = true := by simp; omega
    clear G1 G2 G3 G4 d
    go_enter Try.func115, Try.ntmps115
    go_wp2_with (first | (go_at_call 110; refine (K1.out _).mono ?_; rintro e w' ⟨rfl, rfl⟩))
    go_ret
    exact ⟨ret_i (by rw [V.out]), rfl⟩
  · have V := Lib.hid (G3.out ⟨d, rfl⟩)
    have b2 : ¬ y - r < r := by omega
    have b3 : (r == y - r) = true := by simp; omega
    clear G1 G2 G3 G4 d
    go_enter Try.func115, Try.ntmps115
    go_wp2_with (first | (go_at_call 110; refine (K1.out _).mono ?_; rintro e w' ⟨rfl, rfl⟩))
    go_ret
    exact ⟨ret_i (by rw [V.out]), rfl⟩
  · have V := Lib.hid (G4.out d)
    have b2 : ¬ y - r < r := by omega
    have b3 : (r == y - r) = false := by simp; omega
    clear G1 G2 G3 G4
    go_enter Try.func115, Try.ntmps115
    go_wp2_with (first | (go_at_call 110; refine (K1.out _).mono ?_; rintro e w' ⟨rfl, rfl⟩))
    go_ret
    exact ⟨ret_i (by rw [V.out]), rfl⟩
theorem nqI (a b : Int) (w : World) : Calls Try.prog 32 #[.int .i64 a, .int .i64 b] w fun e w' => e = .returned (.tuple #[.int .i64 (nqV a b), .int .i64 (qc a b)]) ∧ ∃ n, w' = w.drewN n := by
  rcases qc_cases a b with h | h | h
  · obtain ⟨h1, h2, h3⟩ := isV_zero h
    have h1' := isV_t h1
    have h2' := isV_t h2
    have H := Lib.hid h
    by_cases hb : b < 0
    · have S1 : sgn b = -1 := by unfold sgn cmpP; rw [if_pos hb]
      have S2 : iabs b = -b := by unfold iabs; omega
      have V : Hid (nqV a b = nrst (-a) (-b)) := by show nqV a b = _; unfold nqV nrV; rw [if_pos h, if_pos hb]
      go_enter Try.func32, Try.ntmps32
      go_wp2_with (first | (go_at_call 109; refine (qcI _ _ _).mono ?_; rintro e w' ⟨rfl, rfl⟩) | (go_at_call 116; refine (signI _ _).mono ?_; rintro e w' ⟨rfl, rfl⟩) | (go_at_call 117; refine (absI _ _ (by omega) (by omega)).mono ?_; rintro e w' ⟨rfl, rfl⟩) | (go_at_call 115; refine (nearI _ _ _ (by omega) (by omega) (by omega)).mono ?_; rintro e w' ⟨rfl, rfl⟩))
      go_ret2
      exact ⟨by simp [V.out, H.out], 0, rfl⟩
    · have S1 : sgn b = 1 := by unfold sgn cmpP; rw [if_neg hb, if_pos (by omega)]
      have S2 : iabs b = b := by unfold iabs; omega
      have V : Hid (nqV a b = nrst a b) := by show nqV a b = _; unfold nqV nrV; rw [if_pos h, if_neg hb]
      go_enter Try.func32, Try.ntmps32
      go_wp2_with (first | (go_at_call 109; refine (qcI _ _ _).mono ?_; rintro e w' ⟨rfl, rfl⟩) | (go_at_call 116; refine (signI _ _).mono ?_; rintro e w' ⟨rfl, rfl⟩) | (go_at_call 117; refine (absI _ _ (by omega) (by omega)).mono ?_; rintro e w' ⟨rfl, rfl⟩) | (go_at_call 115; refine (nearI _ _ _ (by omega) (by omega) (by omega)).mono ?_; rintro e w' ⟨rfl, rfl⟩))
      go_ret2
      exact ⟨by simp [V.out, H.out], 0, rfl⟩
  all_goals
    go_enter Try.func32, Try.ntmps32
    go_wp2_with (first | (go_at_call 109; refine (qcI _ _ _).mono ?_; rintro e w' ⟨rfl, rfl⟩))
    go_ret2
    exact ⟨by simp [nqV, h], 0, rfl⟩
end Go.Proofs.Ytnanahdhejiniaa
