/- The walk of the law on FanOf. -/
import Derived.Test.YtincelkcbdjcjaaFanL
namespace Go.Proofs.Ytincelkcbdjcjaa
open Go.RowKit
set_option linter.unusedVariables false

theorem fd_below {w w' : World} {B : Nat} {r : Option Nat} (h : w.grownBy w' r) (hB : B ≤ w.heap.size) (hr : ∀ k, r = some k → B ≤ k) : Below B w w' := (Below.refl _ _).grown h hB hr
def FanQ (m : Nat) (r : Int) (F G H : Nat → Int) (w : World) (e : Ending) (w' : World) : Prop :=
  ∃ A c, e = .returned (.tuple #[.slice A m c, .int .i64 r]) ∧ w'.ownsRow w.heap.size 27 3 (.slice A m c) m (triL F G H m) ∧ Below w.heap.size w w'
theorem fan_abs (n l h : Int) (q : Bool) (wn : -9223372036854775808 ≤ n) : ∃ (m : Nat) (r : Int) (F G H : Nat → Int), m ≤ 1000 ∧
    (∀ w0 : World, Calls Try.prog 33 #[.int .i64 n, .int .i64 l, .int .i64 h, .bool q] w0 (FanQ m r F G H w0)) ∧
    ∀ w0 : World, Calls Try.prog 32 #[.int .i64 n, .int .i64 l, .int .i64 h, .bool q] w0 (FanQ m r F G H w0) := by
  refine ⟨fnN n l h, fnE n l h, (fun i => dC (l + (i : Nat)) n), (fun i => dS (l + (i : Nat)) n q), (fun i => dH (l + (i : Nat)) n), fnN_le n l h, fun w0 => ?_, fun w0 => ?_⟩
  · refine (fanOfS n l h q w0 wn).mono ?_
    rintro e w' ⟨A, c, e1, O, hb⟩
    rw [fanC_eq] at O
    exact ⟨A, c, e1, O, hb⟩
  · refine (fanOfI n l h q w0 wn).mono ?_
    rintro e w' ⟨A, c, e1, O, hb⟩
    rw [fanC_eq] at O
    exact ⟨A, c, e1, O, hb⟩
set_option maxHeartbeats 1600000 in
theorem wFanOf (a b c : Int) (q : Bool) (wa : -9223372036854775808 ≤ a ∧ a ≤ 9223372036854775807) (_ : -9223372036854775808 ≤ b ∧ b ≤ 9223372036854775807) (_ : -9223372036854775808 ≤ c ∧ c ≤ 9223372036854775807) (w : World) :
    Calls Try.prog 9 #[.int .i64 a, .int .i64 b, .int .i64 c, .bool q] w fun e w' => e = .returned (.bool true) ∧ Below w.heap.size w w' := by
  obtain ⟨m, r, F, G, H, hm, KS0, KI0⟩ := fan_abs a b c q wa.1
  have KS := Lib.hid KS0
  have KI := Lib.hid KI0
  clear KS0 KI0
  have er : (r != r) = false := by simp
  go_enter Try.func9, Try.ntmps9
  go_wp2_with fail
  refine (KS.out _).mono ?_
  rintro e w1 ⟨A1, c1, rfl, O1, B1⟩
  have hz1 := B1.size
  have J1 := Lib.hid (Tris.of_own O1 (by omega))
  clear O1
  go_wp2_with fail
  refine (KI.out _).mono ?_
  rintro e w2 ⟨A2, c2, rfl, O2, B2⟩
  have hz2 := B2.size
  have J2 := Tris.of_own O2 (by omega)
  have O2 := Lib.hid O2
  go_wp2_with fail
  refine (eqDS J2 (J1.out.below (by (repeat' (first | (with_reducible exact Below.refl _ _) | (with_reducible assumption) | (with_reducible refine bStep ?_ (by with_reducible assumption)) | (with_reducible refine bAlloc ?_ _) | (with_reducible refine bDrew ?_) | (with_reducible refine bDrewN ?_ _) | (with_reducible refine Below.setCell ?_ ?_ _) | (with_reducible exact Nat.le_refl _) | (simp; done) | (simp; omega))))) _ _).mono ?_
  rintro e w3 ⟨rfl, B3⟩
  have hz3 := B3.size
  clear J2
  go_wp2_with fail
  have O3 := fn_below (w' := w3) O2.out (by (repeat' (first | (with_reducible exact Below.refl _ _) | (with_reducible assumption) | (with_reducible refine bStep ?_ (by with_reducible assumption)) | (with_reducible refine bAlloc ?_ _) | (with_reducible refine bDrew ?_) | (with_reducible refine bDrewN ?_ _) | (with_reducible refine Below.setCell ?_ ?_ _) | (with_reducible exact Nat.le_refl _) | (simp; done) | (simp; omega))))
  have hob := fn_base O3
  refine (markDO (k := 1) O3 (by omega) (by omega)).mono ?_
  rintro e w4 ⟨rfl, O4, G4⟩
  have T4 : Below w1.heap.size w1 w4 := Below.trans (b := w3) (by (repeat' (first | (with_reducible exact Below.refl _ _) | (with_reducible assumption) | (with_reducible refine bStep ?_ (by with_reducible assumption)) | (with_reducible refine bAlloc ?_ _) | (with_reducible refine bDrew ?_) | (with_reducible refine bDrewN ?_ _) | (with_reducible refine Below.setCell ?_ ?_ _) | (with_reducible exact Nat.le_refl _) | (simp; done) | (simp; omega)))) (fd_below G4 (by omega) (fun k e => by have := hob k e; omega))
  have T4w : Below w.heap.size w w4 := Below.trans (b := w3) (by (repeat' (first | (with_reducible exact Below.refl _ _) | (with_reducible assumption) | (with_reducible refine bStep ?_ (by with_reducible assumption)) | (with_reducible refine bAlloc ?_ _) | (with_reducible refine bDrew ?_) | (with_reducible refine bDrewN ?_ _) | (with_reducible refine Below.setCell ?_ ?_ _) | (with_reducible exact Nat.le_refl _) | (simp; done) | (simp; omega)))) (fd_below G4 (by omega) (fun k e => by have := hob k e; omega))
  have hz4 := G4.size
  have J4 := Tris.of_own O4 (by omega)
  clear G4 O3 hob O2 O4
  have ng1 : ¬ ((1 + 3 * m : Nat) : Int) < 0 := by omega
  go_wp2_with fail
  refine (heldD (k := 1) J4 (by omega)).mono ?_
  rintro e w5 ⟨rfl, B5⟩
  have hz5 := B5.size
  have J5 := Lib.hid (J4.below B5)
  clear J4
  go_wp2_with fail
  refine (KI.out _).mono ?_
  rintro e w6 ⟨A6, c6, rfl, O6, B6⟩
  have hz6 := B6.size
  have J6 := Tris.of_own O6 (by omega)
  clear O6
  go_wp2_with fail
  have J1b := J1.out.below (w' := w6) (by (repeat' (first | (with_reducible exact Below.refl _ _) | (with_reducible assumption) | (with_reducible refine bStep ?_ (by with_reducible assumption)) | (with_reducible refine bAlloc ?_ _) | (with_reducible refine bDrew ?_) | (with_reducible refine bDrewN ?_ _) | (with_reducible refine Below.setCell ?_ ?_ _) | (with_reducible exact Nat.le_refl _) | (simp; done) | (simp; omega))))
  refine (eqDS J6 J1b _ _).mono ?_
  rintro e w7 ⟨rfl, B7⟩
  have hz7 := B7.size
  clear J6 J1b J1
  go_wp2_with fail
  refine (heldD (k := 1) (J5.out.below (w' := w7) (by (repeat' (first | (with_reducible exact Below.refl _ _) | (with_reducible assumption) | (with_reducible refine bStep ?_ (by with_reducible assumption)) | (with_reducible refine bAlloc ?_ _) | (with_reducible refine bDrew ?_) | (with_reducible refine bDrewN ?_ _) | (with_reducible refine Below.setCell ?_ ?_ _) | (with_reducible exact Nat.le_refl _) | (simp; done) | (simp; omega))))) (by omega)).mono ?_
  rintro e w8 ⟨rfl, B8⟩
  clear J5
  go_wp2
  go_ret
  exact ⟨rfl, (by (repeat' (first | (with_reducible exact Below.refl _ _) | (with_reducible assumption) | (with_reducible refine bStep ?_ (by with_reducible assumption)) | (with_reducible refine bAlloc ?_ _) | (with_reducible refine bDrew ?_) | (with_reducible refine bDrewN ?_ _) | (with_reducible refine Below.setCell ?_ ?_ _) | (with_reducible exact Nat.le_refl _) | (simp; done) | (simp; omega))))⟩
end Go.Proofs.Ytincelkcbdjcjaa
