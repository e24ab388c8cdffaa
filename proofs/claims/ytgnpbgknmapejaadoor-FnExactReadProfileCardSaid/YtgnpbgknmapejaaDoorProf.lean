/- Profiles: contracts of IsProfile, AxisOf, and of the law's own functions. -/
import Derived.Test.YtgnpbgknmapejaaDoorCopy
import Derived.Deep.RegionHeld3
namespace Go.Proofs.YtgnpbgknmapejaaDoor
open Go.RowKit
set_option linter.unusedVariables false

theorem Ints.set {k : IntKind} {w : World} {g o n : Nat} {xs : List Int} (h : Ints k w (some ⟨g, o, none⟩) n xs) {p : Addr} (hp : ¬ p.block = g) (u : Value) : Ints k (w.setCell p u) (some ⟨g, o, none⟩) n xs := by
  obtain ⟨e1, e2, e3, e4⟩ := h
  refine ⟨e1, e2, e3, fun hn => ?_⟩
  obtain ⟨b, off, e, hlt, hc⟩ := e4 hn
  injection e with e
  injection e with ea eb
  subst ea eb
  refine ⟨_, _, rfl, by simpa [World.setCell] using hlt, fun j hj => ?_⟩
  rw [← hc j hj]
  exact World.cell?_of_block (a := ⟨g, o + j, none⟩) (Below.heap_setCell w p u g (fun e => hp e.symm))
noncomputable def pfB (xs ys : List Int) : Bool := decide (2 ≤ xs.length) && decide (xs.length ≤ 12) && decide (ys.length = xs.length) && risesB xs 1000001 && decide (xs.getD 0 0 = 0) && allIn ys 1300000 1700000
theorem pf_len {xs ys : List Int} (h : pfB xs ys = true) : (2 ≤ xs.length ∧ xs.length ≤ 12) ∧ ys.length = xs.length := by
  unfold pfB at h
  simp only [Bool.and_eq_true, decide_eq_true_eq] at h
  exact ⟨⟨h.1.1.1.1.1, h.1.1.1.1.2⟩, h.1.1.1.2⟩
theorem lenI (A : Option Addr) (n c : Nat) (w : World) : Calls Tryd.prog 105 #[.slice A n c] w fun e w' => e = .returned (.int .i64 n) ∧ w = w' := by
  go_enter Tryd.func105, Tryd.ntmps105
  go_wp2
  go_ret
  exact ⟨rfl, rfl⟩
set_option maxHeartbeats 800000 in
theorem isPfS {w : World} {A B : Option Addr} {n m : Nat} {xs ys : List Int} (H : Ints .i64 w A n xs) (K : Ints .i64 w B m ys) (c d : Nat) :
    Calls Tryd.prog 74 #[.agg #[.slice A n c, .slice B m d]] w fun e w' => e = .returned (.bool (pfB xs ys)) ∧ Below w.heap.size w w' := by
  have hn := H.le
  have hm := K.le
  have HN := Lib.hid H.len
  have HM := Lib.hid K.len
  by_cases a1 : n < 2
  · have b1 : (n : Int) < 2 := by omega
    have b2 : inB (n : Int) 2 12 = false := inB_no (by omega)
    have V : Hid (¬ 2 ≤ n) := by show ¬ 2 ≤ n; omega
    clear a1
    go_enter Tryd.func74, Tryd.ntmps74
    go_wp2_with (first | (go_at_call 103; refine (risS (H.below (by (repeat' (first | (with_reducible exact Below.refl _ _) | (with_reducible assumption) | (with_reducible refine bStep ?_ (by with_reducible assumption)) | (with_reducible refine bAlloc ?_ _) | (with_reducible refine bDrew ?_) | (with_reducible refine bDrewN ?_ _) | (with_reducible refine Below.setCell ?_ ?_ _) | (with_reducible exact Nat.le_refl _) | (simp; done) | (simp; omega))))) _ _).mono ?_; rintro e w1 ⟨rfl, q1, rfl⟩) | (go_at_call 85; refine (withS (K.below (by (repeat' (first | (with_reducible exact Below.refl _ _) | (with_reducible assumption) | (with_reducible refine bStep ?_ (by with_reducible assumption)) | (with_reducible refine bAlloc ?_ _) | (with_reducible refine bDrew ?_) | (with_reducible refine bDrewN ?_ _) | (with_reducible refine Below.setCell ?_ ?_ _) | (with_reducible exact Nat.le_refl _) | (simp; done) | (simp; omega))))) _ _ _ _).mono ?_; rintro e w2 ⟨rfl, rfl⟩))
    go_ret
    exact ⟨ret_b (by simp [pfB, HN.out, HM.out, V.out]), by (repeat' (first | (with_reducible exact Below.refl _ _) | (with_reducible assumption) | (with_reducible refine bStep ?_ (by with_reducible assumption)) | (with_reducible refine bAlloc ?_ _) | (with_reducible refine bDrew ?_) | (with_reducible refine bDrewN ?_ _) | (with_reducible refine Below.setCell ?_ ?_ _) | (with_reducible exact Nat.le_refl _) | (simp; done) | (simp; omega)))⟩
  have b1 : ¬ (n : Int) < 2 := by omega
  by_cases a2 : 12 < n
  · have b3 : (12 : Int) < (n : Int) := by omega
    have b2 : inB (n : Int) 2 12 = false := inB_no (by omega)
    have V : Hid (¬ n ≤ 12) := by show ¬ n ≤ 12; omega
    clear a2
    go_enter Tryd.func74, Tryd.ntmps74
    go_wp2_with (first | (go_at_call 103; refine (risS (H.below (by (repeat' (first | (with_reducible exact Below.refl _ _) | (with_reducible assumption) | (with_reducible refine bStep ?_ (by with_reducible assumption)) | (with_reducible refine bAlloc ?_ _) | (with_reducible refine bDrew ?_) | (with_reducible refine bDrewN ?_ _) | (with_reducible refine Below.setCell ?_ ?_ _) | (with_reducible exact Nat.le_refl _) | (simp; done) | (simp; omega))))) _ _).mono ?_; rintro e w1 ⟨rfl, q1, rfl⟩) | (go_at_call 85; refine (withS (K.below (by (repeat' (first | (with_reducible exact Below.refl _ _) | (with_reducible assumption) | (with_reducible refine bStep ?_ (by with_reducible assumption)) | (with_reducible refine bAlloc ?_ _) | (with_reducible refine bDrew ?_) | (with_reducible refine bDrewN ?_ _) | (with_reducible refine Below.setCell ?_ ?_ _) | (with_reducible exact Nat.le_refl _) | (simp; done) | (simp; omega))))) _ _ _ _).mono ?_; rintro e w2 ⟨rfl, rfl⟩))
    go_ret
    exact ⟨ret_b (by simp [pfB, HN.out, HM.out, V.out]), by (repeat' (first | (with_reducible exact Below.refl _ _) | (with_reducible assumption) | (with_reducible refine bStep ?_ (by with_reducible assumption)) | (with_reducible refine bAlloc ?_ _) | (with_reducible refine bDrew ?_) | (with_reducible refine bDrewN ?_ _) | (with_reducible refine Below.setCell ?_ ?_ _) | (with_reducible exact Nat.le_refl _) | (simp; done) | (simp; omega)))⟩
  have b3 : ¬ (12 : Int) < (n : Int) := by omega
  have b2 : inB (n : Int) 2 12 = true := inB_mk (by omega)
  by_cases a3 : m = n
  case neg =>
    have b4 : ((m : Int) != (n : Int)) = true := by simp; omega
    have b5 : ((m : Int) == (n : Int)) = false := by simp; omega
    have V : Hid (¬ m = n) := a3
    clear a1 a2 a3
    go_enter Tryd.func74, Tryd.ntmps74
    go_wp2_with (first | (go_at_call 103; refine (risS (H.below (by (repeat' (first | (with_reducible exact Below.refl _ _) | (with_reducible assumption) | (with_reducible refine bStep ?_ (by with_reducible assumption)) | (with_reducible refine bAlloc ?_ _) | (with_reducible refine bDrew ?_) | (with_reducible refine bDrewN ?_ _) | (with_reducible refine Below.setCell ?_ ?_ _) | (with_reducible exact Nat.le_refl _) | (simp; done) | (simp; omega))))) _ _).mono ?_; rintro e w1 ⟨rfl, q1, rfl⟩) | (go_at_call 85; refine (withS (K.below (by (repeat' (first | (with_reducible exact Below.refl _ _) | (with_reducible assumption) | (with_reducible refine bStep ?_ (by with_reducible assumption)) | (with_reducible refine bAlloc ?_ _) | (with_reducible refine bDrew ?_) | (with_reducible refine bDrewN ?_ _) | (with_reducible refine Below.setCell ?_ ?_ _) | (with_reducible exact Nat.le_refl _) | (simp; done) | (simp; omega))))) _ _ _ _).mono ?_; rintro e w2 ⟨rfl, rfl⟩))
    go_ret
    exact ⟨ret_b (by simp [pfB, HN.out, HM.out, V.out]), by (repeat' (first | (with_reducible exact Below.refl _ _) | (with_reducible assumption) | (with_reducible refine bStep ?_ (by with_reducible assumption)) | (with_reducible refine bAlloc ?_ _) | (with_reducible refine bDrew ?_) | (with_reducible refine bDrewN ?_ _) | (with_reducible refine Below.setCell ?_ ?_ _) | (with_reducible exact Nat.le_refl _) | (simp; done) | (simp; omega)))⟩
  subst a3
  have G1 : Hid (2 ≤ m ∧ m ≤ 12) := by show 2 ≤ m ∧ m ≤ 12; omega
  rcases a4 : risesB xs 1000001
  · clear a1 a2
    go_enter Tryd.func74, Tryd.ntmps74
    go_wp2_with (first | (go_at_call 103; refine (risS (H.below (by (repeat' (first | (with_reducible exact Below.refl _ _) | (with_reducible assumption) | (with_reducible refine bStep ?_ (by with_reducible assumption)) | (with_reducible refine bAlloc ?_ _) | (with_reducible refine bDrew ?_) | (with_reducible refine bDrewN ?_ _) | (with_reducible refine Below.setCell ?_ ?_ _) | (with_reducible exact Nat.le_refl _) | (simp; done) | (simp; omega))))) _ _).mono ?_; rintro e w1 ⟨rfl, q1, rfl⟩) | (go_at_call 85; refine (withS (K.below (by (repeat' (first | (with_reducible exact Below.refl _ _) | (with_reducible assumption) | (with_reducible refine bStep ?_ (by with_reducible assumption)) | (with_reducible refine bAlloc ?_ _) | (with_reducible refine bDrew ?_) | (with_reducible refine bDrewN ?_ _) | (with_reducible refine Below.setCell ?_ ?_ _) | (with_reducible exact Nat.le_refl _) | (simp; done) | (simp; omega))))) _ _ _ _).mono ?_; rintro e w2 ⟨rfl, rfl⟩))
    go_ret
    exact ⟨ret_b (by simp [pfB, HN.out, HM.out, a4]), by (repeat' (first | (with_reducible exact Below.refl _ _) | (with_reducible assumption) | (with_reducible refine bStep ?_ (by with_reducible assumption)) | (with_reducible refine bAlloc ?_ _) | (with_reducible refine bDrew ?_) | (with_reducible refine bDrewN ?_ _) | (with_reducible refine Below.setCell ?_ ?_ _) | (with_reducible exact Nat.le_refl _) | (simp; done) | (simp; omega)))⟩
  obtain ⟨b, off, x0, rfl, hb, hc0, HX0, hw0⟩ := H.at_ (i := 0) (by omega)
  have hc0' : w.cell? ⟨b, off, none⟩ = some (.int .i64 x0) := by simpa using hc0
  have X0 := Lib.hid (getD_of HX0.out)
  have hp1 : (0 : Int) < (m : Int) := by omega
  have hbn : ¬ b = w.heap.size := by omega
  have hbn' : ¬ w.heap.size = b := by omega
  clear hc0 a1 a2
  by_cases a5 : x0 = 0
  case neg =>
    have b6 : (x0 != 0) = true := by simpa using a5
    have b7 : (x0 == 0) = false := by simpa using a5
    have V : Hid (¬ x0 = 0) := a5
    clear a5
    go_enter Tryd.func74, Tryd.ntmps74
    go_wp2_with (first | (go_at_call 103; refine (risS (H.below (by (repeat' (first | (with_reducible exact Below.refl _ _) | (with_reducible assumption) | (with_reducible refine bStep ?_ (by with_reducible assumption)) | (with_reducible refine bAlloc ?_ _) | (with_reducible refine bDrew ?_) | (with_reducible refine bDrewN ?_ _) | (with_reducible refine Below.setCell ?_ ?_ _) | (with_reducible exact Nat.le_refl _) | (simp; done) | (simp; omega))))) _ _).mono ?_; rintro e w1 ⟨rfl, q1, rfl⟩) | (go_at_call 85; refine (withS (K.below (by (repeat' (first | (with_reducible exact Below.refl _ _) | (with_reducible assumption) | (with_reducible refine bStep ?_ (by with_reducible assumption)) | (with_reducible refine bAlloc ?_ _) | (with_reducible refine bDrew ?_) | (with_reducible refine bDrewN ?_ _) | (with_reducible refine Below.setCell ?_ ?_ _) | (with_reducible exact Nat.le_refl _) | (simp; done) | (simp; omega))))) _ _ _ _).mono ?_; rintro e w2 ⟨rfl, rfl⟩))
    go_ret
    exact ⟨ret_b (by simp [pfB, HN.out, HM.out, HX0.out, V.out]), by (repeat' (first | (with_reducible exact Below.refl _ _) | (with_reducible assumption) | (with_reducible refine bStep ?_ (by with_reducible assumption)) | (with_reducible refine bAlloc ?_ _) | (with_reducible refine bDrew ?_) | (with_reducible refine bDrewN ?_ _) | (with_reducible refine Below.setCell ?_ ?_ _) | (with_reducible exact Nat.le_refl _) | (simp; done) | (simp; omega)))⟩
  subst a5
  have hm12 : (m : Int) ≤ 12 := by omega
  have M12 : Hid (m ≤ 12) := by show m ≤ 12; omega
  go_enter Tryd.func74, Tryd.ntmps74
  go_wp2_with (first | (go_at_call 103; refine (risS (H.below (by (repeat' (first | (with_reducible exact Below.refl _ _) | (with_reducible assumption) | (with_reducible refine bStep ?_ (by with_reducible assumption)) | (with_reducible refine bAlloc ?_ _) | (with_reducible refine bDrew ?_) | (with_reducible refine bDrewN ?_ _) | (with_reducible refine Below.setCell ?_ ?_ _) | (with_reducible exact Nat.le_refl _) | (simp; done) | (simp; omega))))) _ _).mono ?_; rintro e w1 ⟨rfl, q1, rfl⟩) | (go_at_call 85; refine (withS (K.below (by (repeat' (first | (with_reducible exact Below.refl _ _) | (with_reducible assumption) | (with_reducible refine bStep ?_ (by with_reducible assumption)) | (with_reducible refine bAlloc ?_ _) | (with_reducible refine bDrew ?_) | (with_reducible refine bDrewN ?_ _) | (with_reducible refine Below.setCell ?_ ?_ _) | (with_reducible exact Nat.le_refl _) | (simp; done) | (simp; omega))))) _ _ _ _).mono ?_; rintro e w2 ⟨rfl, rfl⟩))
  go_ret
  exact ⟨ret_b (by simp [pfB, HN.out, HM.out, HX0.out, a4, G1.out.1, G1.out.2]), by (repeat' (first | (with_reducible exact Below.refl _ _) | (with_reducible assumption) | (with_reducible refine bStep ?_ (by with_reducible assumption)) | (with_reducible refine bAlloc ?_ _) | (with_reducible refine bDrew ?_) | (with_reducible refine bDrewN ?_ _) | (with_reducible refine Below.setCell ?_ ?_ _) | (with_reducible exact Nat.le_refl _) | (simp; done) | (simp; omega)))⟩
set_option maxHeartbeats 800000 in
theorem isPfI {w : World} {A B : Option Addr} {n m : Nat} {xs ys : List Int} (H : Ints .i64 w A n xs) (K : Ints .i64 w B m ys) (c d : Nat) :
    Calls Tryd.prog 76 #[.agg #[.slice A n c, .slice B m d]] w fun e w' => e = .returned (.bool (pfB xs ys)) ∧ Below w.heap.size w w' := by
  have hn := H.le
  have hm := K.le
  have HN := Lib.hid H.len
  have HM := Lib.hid K.len
  by_cases a1 : n < 2
  · have b1 : (n : Int) < 2 := by omega
    have b2 : inB (n : Int) 2 12 = false := inB_no (by omega)
    have V : Hid (¬ 2 ≤ n) := by show ¬ 2 ≤ n; omega
    clear a1
    go_enter Tryd.func76, Tryd.ntmps76
    go_wp2_with (first | (go_at_call 105; refine (lenI _ _ _ _).mono ?_; rintro e w0 ⟨rfl, rfl⟩) | (go_at_call 87; refine (inIv (by assumption) _).mono ?_; rintro e w3 ⟨rfl, rfl⟩) | (go_at_call 106; refine (risI (H.below (by (repeat' (first | (with_reducible exact Below.refl _ _) | (with_reducible assumption) | (with_reducible refine bStep ?_ (by with_reducible assumption)) | (with_reducible refine bAlloc ?_ _) | (with_reducible refine bDrew ?_) | (with_reducible refine bDrewN ?_ _) | (with_reducible refine Below.setCell ?_ ?_ _) | (with_reducible exact Nat.le_refl _) | (simp; done) | (simp; omega))))) _ _).mono ?_; rintro e w1 ⟨rfl, rfl⟩) | (go_at_call 84; refine (areWI (K.below (by (repeat' (first | (with_reducible exact Below.refl _ _) | (with_reducible assumption) | (with_reducible refine bStep ?_ (by with_reducible assumption)) | (with_reducible refine bAlloc ?_ _) | (with_reducible refine bDrew ?_) | (with_reducible refine bDrewN ?_ _) | (with_reducible refine Below.setCell ?_ ?_ _) | (with_reducible exact Nat.le_refl _) | (simp; done) | (simp; omega))))) _ _ _).mono ?_; rintro e w2 ⟨rfl, rfl⟩))
    go_ret
    exact ⟨ret_b (by simp [pfB, HN.out, HM.out, V.out]), by (repeat' (first | (with_reducible exact Below.refl _ _) | (with_reducible assumption) | (with_reducible refine bStep ?_ (by with_reducible assumption)) | (with_reducible refine bAlloc ?_ _) | (with_reducible refine bDrew ?_) | (with_reducible refine bDrewN ?_ _) | (with_reducible refine Below.setCell ?_ ?_ _) | (with_reducible exact Nat.le_refl _) | (simp; done) | (simp; omega)))⟩
  have b1 : ¬ (n : Int) < 2 := by omega
  by_cases a2 : 12 < n
  · have b3 : (12 : Int) < (n : Int) := by omega
    have b2 : inB (n : Int) 2 12 = false := inB_no (by omega)
    have V : Hid (¬ n ≤ 12) := by show ¬ n ≤ 12; omega
    clear a2
    go_enter Tryd.func76, Tryd.ntmps76
    go_wp2_with (first | (go_at_call 105; refine (lenI _ _ _ _).mono ?_; rintro e w0 ⟨rfl, rfl⟩) | (go_at_call 87; refine (inIv (by assumption) _).mono ?_; rintro e w3 ⟨rfl, rfl⟩) | (go_at_call 106; refine (risI (H.below (by (repeat' (first | (with_reducible exact Below.refl _ _) | (with_reducible assumption) | (with_reducible refine bStep ?_ (by with_reducible assumption)) | (with_reducible refine bAlloc ?_ _) | (with_reducible refine bDrew ?_) | (with_reducible refine bDrewN ?_ _) | (with_reducible refine Below.setCell ?_ ?_ _) | (with_reducible exact Nat.le_refl _) | (simp; done) | (simp; omega))))) _ _).mono ?_; rintro e w1 ⟨rfl, rfl⟩) | (go_at_call 84; refine (areWI (K.below (by (repeat' (first | (with_reducible exact Below.refl _ _) | (with_reducible assumption) | (with_reducible refine bStep ?_ (by with_reducible assumption)) | (with_reducible refine bAlloc ?_ _) | (with_reducible refine bDrew ?_) | (with_reducible refine bDrewN ?_ _) | (with_reducible refine Below.setCell ?_ ?_ _) | (with_reducible exact Nat.le_refl _) | (simp; done) | (simp; omega))))) _ _ _).mono ?_; rintro e w2 ⟨rfl, rfl⟩))
    go_ret
    exact ⟨ret_b (by simp [pfB, HN.out, HM.out, V.out]), by (repeat' (first | (with_reducible exact Below.refl _ _) | (with_reducible assumption) | (with_reducible refine bStep ?_ (by with_reducible assumption)) | (with_reducible refine bAlloc ?_ _) | (with_reducible refine bDrew ?_) | (with_reducible refine bDrewN ?_ _) | (with_reducible refine Below.setCell ?_ ?_ _) | (with_reducible exact Nat.le_refl _) | (simp; done) | (simp; omega)))⟩
  have b3 : ¬ (12 : Int) < (n : Int) := by omega
  have b2 : inB (n : Int) 2 12 = true := inB_mk (by omega)
  by_cases a3 : m = n
  case neg =>
    have b4 : ((m : Int) != (n : Int)) = true := by simp; omega
    have b5 : ((m : Int) == (n : Int)) = false := by simp; omega
    have V : Hid (¬ m = n) := a3
    clear a1 a2 a3
    go_enter Tryd.func76, Tryd.ntmps76
    go_wp2_with (first | (go_at_call 105; refine (lenI _ _ _ _).mono ?_; rintro e w0 ⟨rfl, rfl⟩) | (go_at_call 87; refine (inIv (by assumption) _).mono ?_; rintro e w3 ⟨rfl, rfl⟩) | (go_at_call 106; refine (risI (H.below (by (repeat' (first | (with_reducible exact Below.refl _ _) | (with_reducible assumption) | (with_reducible refine bStep ?_ (by with_reducible assumption)) | (with_reducible refine bAlloc ?_ _) | (with_reducible refine bDrew ?_) | (with_reducible refine bDrewN ?_ _) | (with_reducible refine Below.setCell ?_ ?_ _) | (with_reducible exact Nat.le_refl _) | (simp; done) | (simp; omega))))) _ _).mono ?_; rintro e w1 ⟨rfl, rfl⟩) | (go_at_call 84; refine (areWI (K.below (by (repeat' (first | (with_reducible exact Below.refl _ _) | (with_reducible assumption) | (with_reducible refine bStep ?_ (by with_reducible assumption)) | (with_reducible refine bAlloc ?_ _) | (with_reducible refine bDrew ?_) | (with_reducible refine bDrewN ?_ _) | (with_reducible refine Below.setCell ?_ ?_ _) | (with_reducible exact Nat.le_refl _) | (simp; done) | (simp; omega))))) _ _ _).mono ?_; rintro e w2 ⟨rfl, rfl⟩))
    go_ret
    exact ⟨ret_b (by simp [pfB, HN.out, HM.out, V.out]), by (repeat' (first | (with_reducible exact Below.refl _ _) | (with_reducible assumption) | (with_reducible refine bStep ?_ (by with_reducible assumption)) | (with_reducible refine bAlloc ?_ _) | (with_reducible refine bDrew ?_) | (with_reducible refine bDrewN ?_ _) | (with_reducible refine Below.setCell ?_ ?_ _) | (with_reducible exact Nat.le_refl _) | (simp; done) | (simp; omega)))⟩
  subst a3
  have G1 : Hid (2 ≤ m ∧ m ≤ 12) := by show 2 ≤ m ∧ m ≤ 12; omega
  rcases a4 : risesB xs 1000001
  · clear a1 a2
    go_enter Tryd.func76, Tryd.ntmps76
    go_wp2_with (first | (go_at_call 105; refine (lenI _ _ _ _).mono ?_; rintro e w0 ⟨rfl, rfl⟩) | (go_at_call 87; refine (inIv (by assumption) _).mono ?_; rintro e w3 ⟨rfl, rfl⟩) | (go_at_call 106; refine (risI (H.below (by (repeat' (first | (with_reducible exact Below.refl _ _) | (with_reducible assumption) | (with_reducible refine bStep ?_ (by with_reducible assumption)) | (with_reducible refine bAlloc ?_ _) | (with_reducible refine bDrew ?_) | (with_reducible refine bDrewN ?_ _) | (with_reducible refine Below.setCell ?_ ?_ _) | (with_reducible exact Nat.le_refl _) | (simp; done) | (simp; omega))))) _ _).mono ?_; rintro e w1 ⟨rfl, rfl⟩) | (go_at_call 84; refine (areWI (K.below (by (repeat' (first | (with_reducible exact Below.refl _ _) | (with_reducible assumption) | (with_reducible refine bStep ?_ (by with_reducible assumption)) | (with_reducible refine bAlloc ?_ _) | (with_reducible refine bDrew ?_) | (with_reducible refine bDrewN ?_ _) | (with_reducible refine Below.setCell ?_ ?_ _) | (with_reducible exact Nat.le_refl _) | (simp; done) | (simp; omega))))) _ _ _).mono ?_; rintro e w2 ⟨rfl, rfl⟩))
    go_ret
    exact ⟨ret_b (by simp [pfB, HN.out, HM.out, a4]), by (repeat' (first | (with_reducible exact Below.refl _ _) | (with_reducible assumption) | (with_reducible refine bStep ?_ (by with_reducible assumption)) | (with_reducible refine bAlloc ?_ _) | (with_reducible refine bDrew ?_) | (with_reducible refine bDrewN ?_ _) | (with_reducible refine Below.setCell ?_ ?_ _) | (with_reducible exact Nat.le_refl _) | (simp; done) | (simp; omega)))⟩
  obtain ⟨b, off, x0, rfl, hb, hc0, HX0, hw0⟩ := H.at_ (i := 0) (by omega)
  have hc0' : w.cell? ⟨b, off, none⟩ = some (.int .i64 x0) := by simpa using hc0
  have X0 := Lib.hid (getD_of HX0.out)
  have hp1 : (0 : Int) < (m : Int) := by omega
  have hbn : ¬ b = w.heap.size := by omega
  have hbn' : ¬ w.heap.size = b := by omega
  clear hc0 a1 a2
  by_cases a5 : x0 = 0
  case neg =>
    have b6 : (x0 != 0) = true := by simpa using a5
    have b7 : (x0 == 0) = false := by simpa using a5
    have V : Hid (¬ x0 = 0) := a5
    clear a5
    go_enter Tryd.func76, Tryd.ntmps76
    go_wp2_with (first | (go_at_call 105; refine (lenI _ _ _ _).mono ?_; rintro e w0 ⟨rfl, rfl⟩) | (go_at_call 87; refine (inIv (by assumption) _).mono ?_; rintro e w3 ⟨rfl, rfl⟩) | (go_at_call 106; refine (risI (H.below (by (repeat' (first | (with_reducible exact Below.refl _ _) | (with_reducible assumption) | (with_reducible refine bStep ?_ (by with_reducible assumption)) | (with_reducible refine bAlloc ?_ _) | (with_reducible refine bDrew ?_) | (with_reducible refine bDrewN ?_ _) | (with_reducible refine Below.setCell ?_ ?_ _) | (with_reducible exact Nat.le_refl _) | (simp; done) | (simp; omega))))) _ _).mono ?_; rintro e w1 ⟨rfl, rfl⟩) | (go_at_call 84; refine (areWI (K.below (by (repeat' (first | (with_reducible exact Below.refl _ _) | (with_reducible assumption) | (with_reducible refine bStep ?_ (by with_reducible assumption)) | (with_reducible refine bAlloc ?_ _) | (with_reducible refine bDrew ?_) | (with_reducible refine bDrewN ?_ _) | (with_reducible refine Below.setCell ?_ ?_ _) | (with_reducible exact Nat.le_refl _) | (simp; done) | (simp; omega))))) _ _ _).mono ?_; rintro e w2 ⟨rfl, rfl⟩))
    go_ret
    exact ⟨ret_b (by simp [pfB, HN.out, HM.out, HX0.out, V.out]), by (repeat' (first | (with_reducible exact Below.refl _ _) | (with_reducible assumption) | (with_reducible refine bStep ?_ (by with_reducible assumption)) | (with_reducible refine bAlloc ?_ _) | (with_reducible refine bDrew ?_) | (with_reducible refine bDrewN ?_ _) | (with_reducible refine Below.setCell ?_ ?_ _) | (with_reducible exact Nat.le_refl _) | (simp; done) | (simp; omega)))⟩
  subst a5
  have hm12 : (m : Int) ≤ 12 := by omega
  have M12 : Hid (m ≤ 12) := by show m ≤ 12; omega
  go_enter Tryd.func76, Tryd.ntmps76
  go_wp2_with (first | (go_at_call 105; refine (lenI _ _ _ _).mono ?_; rintro e w0 ⟨rfl, rfl⟩) | (go_at_call 87; refine (inIv (by assumption) _).mono ?_; rintro e w3 ⟨rfl, rfl⟩) | (go_at_call 106; refine (risI (H.below (by (repeat' (first | (with_reducible exact Below.refl _ _) | (with_reducible assumption) | (with_reducible refine bStep ?_ (by with_reducible assumption)) | (with_reducible refine bAlloc ?_ _) | (with_reducible refine bDrew ?_) | (with_reducible refine bDrewN ?_ _) | (with_reducible refine Below.setCell ?_ ?_ _) | (with_reducible exact Nat.le_refl _) | (simp; done) | (simp; omega))))) _ _).mono ?_; rintro e w1 ⟨rfl, rfl⟩) | (go_at_call 84; refine (areWI (K.below (by (repeat' (first | (with_reducible exact Below.refl _ _) | (with_reducible assumption) | (with_reducible refine bStep ?_ (by with_reducible assumption)) | (with_reducible refine bAlloc ?_ _) | (with_reducible refine bDrew ?_) | (with_reducible refine bDrewN ?_ _) | (with_reducible refine Below.setCell ?_ ?_ _) | (with_reducible exact Nat.le_refl _) | (simp; done) | (simp; omega))))) _ _ _).mono ?_; rintro e w2 ⟨rfl, rfl⟩))
  go_ret
  exact ⟨ret_b (by simp [pfB, HN.out, HM.out, HX0.out, a4, G1.out.1, G1.out.2]), by (repeat' (first | (with_reducible exact Below.refl _ _) | (with_reducible assumption) | (with_reducible refine bStep ?_ (by with_reducible assumption)) | (with_reducible refine bAlloc ?_ _) | (with_reducible refine bDrew ?_) | (with_reducible refine bDrewN ?_ _) | (with_reducible refine Below.setCell ?_ ?_ _) | (with_reducible exact Nat.le_refl _) | (simp; done) | (simp; omega)))⟩
theorem szL (A : Option Addr) (n c : Nat) (l : Int) (w : World) (hn : n ≤ 9223372036854775807) (h0 : 0 ≤ l) (h1 : l ≤ 9223372036854775807) :
    Calls Tryd.prog 79 #[.slice A n c, .int .i64 l] w fun e w' => e = .returned (.int .i64 (if l < n then -1 else l - n)) ∧ w = w' := by
  by_cases h : l < n
  · go_enter Tryd.func79, Tryd.ntmps79
    go_wp2
    go_ret
    exact ⟨ret_i (by first | rfl | rw [if_pos h]), rfl⟩
  · go_enter Tryd.func79, Tryd.ntmps79
    go_wp2
    go_ret
    exact ⟨ret_i (by first | rfl | rw [if_neg (by omega)]), rfl⟩
theorem szPf (A B : Option Addr) (n m c d : Nat) (w : World) (hn : n ≤ 9223372036854775807) (hm : m ≤ 9223372036854775807) :
    Calls Tryd.prog 40 #[.agg #[.slice A n c, .slice B m d], .int .i64 1048576] w fun e w' => ∃ l : Int, e = .returned (.int .i64 l) ∧ (n + m ≤ 1048576 → l = 1048576 - n - m) ∧ (¬ n + m ≤ 1048576 → l = -1) ∧ Below w.heap.size w w' := by
  by_cases h : n ≤ 1048576
  · have e1 : (if (1048576 : Int) < (n : Int) then (-1 : Int) else 1048576 - (n : Int)) = 1048576 - (n : Int) := if_neg (by omega)
    have K1 : Hid (∀ w0 : World, Calls Tryd.prog 79 #[.slice A n c, .int .i64 1048576] w0 fun e w' => e = .returned (.int .i64 (1048576 - n)) ∧ w0 = w') := fun w0 => by
      have := szL A n c 1048576 w0 hn (by omega) (by omega)
      rw [e1] at this
      exact this
    by_cases h' : n + m ≤ 1048576
    · have e2 : (if (1048576 : Int) - (n : Int) < (m : Int) then (-1 : Int) else 1048576 - (n : Int) - (m : Int)) = 1048576 - (n : Int) - (m : Int) := if_neg (by omega)
      have K2 : Hid (∀ w0 : World, Calls Tryd.prog 79 #[.slice B m d, .int .i64 (1048576 - n)] w0 fun e w' => e = .returned (.int .i64 (1048576 - n - m)) ∧ w0 = w') := fun w0 => by
        have := szL B m d (1048576 - n) w0 hm (by omega) (by omega)
        rw [e2] at this
        exact this
      have hh := Lib.hid h'
      have g1 : ¬ (1048576 : Int) - (n : Int) < 0 := by omega
      have g2 : ¬ (1048576 : Int) - (n : Int) - (m : Int) < 0 := by omega
      clear e1 e2
      go_enter Tryd.func40, Tryd.ntmps40
      go_wp2_with fail
      refine (K1.out _).mono ?_
      rintro e w' ⟨rfl, rfl⟩
      go_wp2_with fail
      refine (K2.out _).mono ?_
      rintro e w' ⟨rfl, rfl⟩
      go_wp2
      go_ret
      exact ⟨_, rfl, fun _ => rfl, fun k => absurd hh.out k, by (repeat' (first | (with_reducible exact Below.refl _ _) | (with_reducible assumption) | (with_reducible refine bStep ?_ (by with_reducible assumption)) | (with_reducible refine bAlloc ?_ _) | (with_reducible refine bDrew ?_) | (with_reducible refine bDrewN ?_ _) | (with_reducible refine Below.setCell ?_ ?_ _) | (with_reducible exact Nat.le_refl _) | (simp; done) | (simp; omega)))⟩
    · have e2 : (if (1048576 : Int) - (n : Int) < (m : Int) then (-1 : Int) else 1048576 - (n : Int) - (m : Int)) = -1 := if_pos (by omega)
      have K2 : Hid (∀ w0 : World, Calls Tryd.prog 79 #[.slice B m d, .int .i64 (1048576 - n)] w0 fun e w' => e = .returned (.int .i64 (-1)) ∧ w0 = w') := fun w0 => by
        have := szL B m d (1048576 - n) w0 hm (by omega) (by omega)
        rw [e2] at this
        exact this
      have hh := Lib.hid h'
      have g1 : ¬ (1048576 : Int) - (n : Int) < 0 := by omega
      clear e1 e2
      go_enter Tryd.func40, Tryd.ntmps40
      go_wp2_with fail
      refine (K1.out _).mono ?_
      rintro e w' ⟨rfl, rfl⟩
      go_wp2_with fail
      refine (K2.out _).mono ?_
      rintro e w' ⟨rfl, rfl⟩
      go_wp2
      go_ret
      exact ⟨_, rfl, fun k => absurd k hh.out, fun _ => rfl, by (repeat' (first | (with_reducible exact Below.refl _ _) | (with_reducible assumption) | (with_reducible refine bStep ?_ (by with_reducible assumption)) | (with_reducible refine bAlloc ?_ _) | (with_reducible refine bDrew ?_) | (with_reducible refine bDrewN ?_ _) | (with_reducible refine Below.setCell ?_ ?_ _) | (with_reducible exact Nat.le_refl _) | (simp; done) | (simp; omega)))⟩
  · have e1 : (if (1048576 : Int) < (n : Int) then (-1 : Int) else 1048576 - (n : Int)) = -1 := if_pos (by omega)
    have K1 : Hid (∀ w0 : World, Calls Tryd.prog 79 #[.slice A n c, .int .i64 1048576] w0 fun e w' => e = .returned (.int .i64 (-1)) ∧ w0 = w') := fun w0 => by
      have := szL A n c 1048576 w0 hn (by omega) (by omega)
      rw [e1] at this
      exact this
    have hh := Lib.hid h
    clear e1
    go_enter Tryd.func40, Tryd.ntmps40
    go_wp2_with fail
    refine (K1.out _).mono ?_
    rintro e w' ⟨rfl, rfl⟩
    go_wp2
    go_ret
    exact ⟨_, rfl, fun k => absurd (by omega) hh.out, fun _ => rfl, by (repeat' (first | (with_reducible exact Below.refl _ _) | (with_reducible assumption) | (with_reducible refine bStep ?_ (by with_reducible assumption)) | (with_reducible refine bAlloc ?_ _) | (with_reducible refine bDrew ?_) | (with_reducible refine bDrewN ?_ _) | (with_reducible refine Below.setCell ?_ ?_ _) | (with_reducible exact Nat.le_refl _) | (simp; done) | (simp; omega)))⟩
set_option maxHeartbeats 800000 in
theorem toPf {w : World} {A B : Option Addr} {n m : Nat} {xs ys : List Int} (H : Ints .i64 w A n xs) (K : Ints .i64 w B m ys) (c d : Nat) (hn : n ≤ 1048576) (hm : m ≤ 1048576) :
    Calls Tryd.prog 42 #[.agg #[.slice A n c, .slice B m d]] w fun e w' => ∃ g1 g2, e = .returned (.agg #[.slice (some ⟨g1, 0, none⟩) n n, .slice (some ⟨g2, 0, none⟩) m m]) ∧ (w.heap.size ≤ g1 ∧ w.heap.size ≤ g2) ∧ Ints .i64 w' (some ⟨g1, 0, none⟩) n xs ∧ Ints .i64 w' (some ⟨g2, 0, none⟩) m ys ∧ Below w.heap.size w w' := by
  go_enter Tryd.func42, Tryd.ntmps42
  go_wp2_with fail
  (refine (copyL (H.below (by (repeat' (first | (with_reducible exact Below.refl _ _) | (with_reducible assumption) | (with_reducible refine bStep ?_ (by with_reducible assumption)) | (with_reducible refine bAlloc ?_ _) | (with_reducible refine bDrew ?_) | (with_reducible refine bDrewN ?_ _) | (with_reducible refine Below.setCell ?_ ?_ _) | (with_reducible exact Nat.le_refl _) | (simp; done) | (simp; omega))))) c hn).mono ?_; rintro e w1 ⟨g1, rfl, hg1, I1, O1, hb1⟩; obtain ⟨hc1, hf1⟩ := bcell hb1; have hs1 := hb1.size; (try simp at hs1); (try have hl1 := Nat.lt_of_succ_le hs1); (try have hz10 : w.heap.size < w1.heap.size := (by have := hb1.size; (try simp at this); omega)); (try have hn10 : ¬ w.heap.size = w1.heap.size := (by omega)); (try have hm10 : ¬ w1.heap.size = w.heap.size := (by omega)); (try have hz11 : w.heap.size + 1 < w1.heap.size := (by have := hb1.size; (try simp at this); omega)); (try have hn11 : ¬ w.heap.size + 1 = w1.heap.size := (by omega)); (try have hm11 : ¬ w1.heap.size = w.heap.size + 1 := (by omega)); (try have hz12 : w.heap.size + 1 + 1 < w1.heap.size := (by have := hb1.size; (try simp at this); omega)); (try have hn12 : ¬ w.heap.size + 1 + 1 = w1.heap.size := (by omega)); (try have hm12 : ¬ w1.heap.size = w.heap.size + 1 + 1 := (by omega)); (try have c100 := hc1 (w.heap.size) 0 (by first | omega | (simp; done) | (simp; omega))); (try have f100 := hf1 (w.heap.size) 0 (by first | omega | (simp; done) | (simp; omega))); (try have c101 := hc1 (w.heap.size) 1 (by first | omega | (simp; done) | (simp; omega))); (try have f101 := hf1 (w.heap.size) 1 (by first | omega | (simp; done) | (simp; omega))); (try have c110 := hc1 (w.heap.size + 1) 0 (by first | omega | (simp; done) | (simp; omega))); (try have f110 := hf1 (w.heap.size + 1) 0 (by first | omega | (simp; done) | (simp; omega))); (try have c111 := hc1 (w.heap.size + 1) 1 (by first | omega | (simp; done) | (simp; omega))); (try have f111 := hf1 (w.heap.size + 1) 1 (by first | omega | (simp; done) | (simp; omega))); (try have c120 := hc1 (w.heap.size + 1 + 1) 0 (by first | omega | (simp; done) | (simp; omega))); (try have f120 := hf1 (w.heap.size + 1 + 1) 0 (by first | omega | (simp; done) | (simp; omega))); (try have c121 := hc1 (w.heap.size + 1 + 1) 1 (by first | omega | (simp; done) | (simp; omega))); (try have f121 := hf1 (w.heap.size + 1 + 1) 1 (by first | omega | (simp; done) | (simp; omega))); (try have d120 := hc1 (w.heap.size + 2) 0 (by first | omega | (simp; done) | (simp; omega))); (try have g120 := hf1 (w.heap.size + 2) 0 (by first | omega | (simp; done) | (simp; omega))); (try have d121 := hc1 (w.heap.size + 2) 1 (by first | omega | (simp; done) | (simp; omega))); (try have g121 := hf1 (w.heap.size + 2) 1 (by first | omega | (simp; done) | (simp; omega))))
  (try simp at hg1)
  clear O1
  go_wp2_with fail
  (refine (copyL (K.below (by (repeat' (first | (with_reducible exact Below.refl _ _) | (with_reducible assumption) | (with_reducible refine bStep ?_ (by with_reducible assumption)) | (with_reducible refine bAlloc ?_ _) | (with_reducible refine bDrew ?_) | (with_reducible refine bDrewN ?_ _) | (with_reducible refine Below.setCell ?_ ?_ _) | (with_reducible exact Nat.le_refl _) | (simp; done) | (simp; omega))))) d hm).mono ?_; rintro e w2 ⟨g2, rfl, hg2, I2, O2, hb2⟩; obtain ⟨hc2, hf2⟩ := bcell hb2; have hs2 := hb2.size; (try simp at hs2); (try have hl2 := Nat.lt_of_succ_le hs2); (try have hz20 : w.heap.size < w2.heap.size := (by have := hb2.size; (try simp at this); omega)); (try have hn20 : ¬ w.heap.size = w2.heap.size := (by omega)); (try have hm20 : ¬ w2.heap.size = w.heap.size := (by omega)); (try have hz21 : w.heap.size + 1 < w2.heap.size := (by have := hb2.size; (try simp at this); omega)); (try have hn21 : ¬ w.heap.size + 1 = w2.heap.size := (by omega)); (try have hm21 : ¬ w2.heap.size = w.heap.size + 1 := (by omega)); (try have hz22 : w.heap.size + 1 + 1 < w2.heap.size := (by have := hb2.size; (try simp at this); omega)); (try have hn22 : ¬ w.heap.size + 1 + 1 = w2.heap.size := (by omega)); (try have hm22 : ¬ w2.heap.size = w.heap.size + 1 + 1 := (by omega)); (try have c200 := hc2 (w.heap.size) 0 (by first | omega | (simp; done) | (simp; omega))); (try have f200 := hf2 (w.heap.size) 0 (by first | omega | (simp; done) | (simp; omega))); (try have c201 := hc2 (w.heap.size) 1 (by first | omega | (simp; done) | (simp; omega))); (try have f201 := hf2 (w.heap.size) 1 (by first | omega | (simp; done) | (simp; omega))); (try have c210 := hc2 (w.heap.size + 1) 0 (by first | omega | (simp; done) | (simp; omega))); (try have f210 := hf2 (w.heap.size + 1) 0 (by first | omega | (simp; done) | (simp; omega))); (try have c211 := hc2 (w.heap.size + 1) 1 (by first | omega | (simp; done) | (simp; omega))); (try have f211 := hf2 (w.heap.size + 1) 1 (by first | omega | (simp; done) | (simp; omega))); (try have c220 := hc2 (w.heap.size + 1 + 1) 0 (by first | omega | (simp; done) | (simp; omega))); (try have f220 := hf2 (w.heap.size + 1 + 1) 0 (by first | omega | (simp; done) | (simp; omega))); (try have c221 := hc2 (w.heap.size + 1 + 1) 1 (by first | omega | (simp; done) | (simp; omega))); (try have f221 := hf2 (w.heap.size + 1 + 1) 1 (by first | omega | (simp; done) | (simp; omega))); (try have d220 := hc2 (w.heap.size + 2) 0 (by first | omega | (simp; done) | (simp; omega))); (try have g220 := hf2 (w.heap.size + 2) 0 (by first | omega | (simp; done) | (simp; omega))); (try have d221 := hc2 (w.heap.size + 2) 1 (by first | omega | (simp; done) | (simp; omega))); (try have g221 := hf2 (w.heap.size + 2) 1 (by first | omega | (simp; done) | (simp; omega))))
  (try simp at hg2)
  clear O2
  go_wp2
  first | go_returns | (refine bodyPost_ret (by simp [results, Tryd.results42, go_sem, *]; try rfl) rfl ?_)
  exact ⟨g1, g2, rfl, by omega, by (repeat' (first | (with_reducible exact I1) | (with_reducible refine Ints.below ?_ (by with_reducible assumption)) | (with_reducible refine Ints.set ?_ ?_ _) | omega | (simp; done) | (simp; omega))), by (repeat' (first | (with_reducible exact I2) | (with_reducible refine Ints.below ?_ (by with_reducible assumption)) | (with_reducible refine Ints.set ?_ ?_ _) | omega | (simp; done) | (simp; omega))), by (repeat' (first | (with_reducible exact Below.refl _ _) | (with_reducible assumption) | (with_reducible refine bStep ?_ (by with_reducible assumption)) | (with_reducible refine bAlloc ?_ _) | (with_reducible refine bDrew ?_) | (with_reducible refine bDrewN ?_ _) | (with_reducible refine Below.setCell ?_ ?_ _) | (with_reducible exact Nat.le_refl _) | (simp; done) | (simp; omega)))⟩
set_option maxHeartbeats 800000 in
theorem eqPf {w : World} {A B A' B' : Option Addr} {n m n' m' : Nat} {xs ys xs' ys' : List Int} (H : Ints .i64 w A n xs) (K : Ints .i64 w B m ys) (H' : Ints .i64 w A' n' xs') (K' : Ints .i64 w B' m' ys') (c d c' d' : Nat) :
    Calls Tryd.prog 31 #[.agg #[.slice A n c, .slice B m d], .agg #[.slice A' n' c', .slice B' m' d']] w fun e w' => e = .returned (.bool ((xs == xs') && (ys == ys'))) ∧ Below w.heap.size w w' := by
  rcases h1 : (xs == xs')
  · go_enter Tryd.func31, Tryd.ntmps31
    go_wp2_with fail
    refine (eqL (H.below (by (repeat' (first | (with_reducible exact Below.refl _ _) | (with_reducible assumption) | (with_reducible refine bStep ?_ (by with_reducible assumption)) | (with_reducible refine bAlloc ?_ _) | (with_reducible refine bDrew ?_) | (with_reducible refine bDrewN ?_ _) | (with_reducible refine Below.setCell ?_ ?_ _) | (with_reducible exact Nat.le_refl _) | (simp; done) | (simp; omega))))) (H'.below (by (repeat' (first | (with_reducible exact Below.refl _ _) | (with_reducible assumption) | (with_reducible refine bStep ?_ (by with_reducible assumption)) | (with_reducible refine bAlloc ?_ _) | (with_reducible refine bDrew ?_) | (with_reducible refine bDrewN ?_ _) | (with_reducible refine Below.setCell ?_ ?_ _) | (with_reducible exact Nat.le_refl _) | (simp; done) | (simp; omega))))) _ _).mono ?_
    rintro e w1 ⟨rfl, q1, rfl⟩
    go_wp2
    go_ret
    exact ⟨rfl, by (repeat' (first | (with_reducible exact Below.refl _ _) | (with_reducible assumption) | (with_reducible refine bStep ?_ (by with_reducible assumption)) | (with_reducible refine bAlloc ?_ _) | (with_reducible refine bDrew ?_) | (with_reducible refine bDrewN ?_ _) | (with_reducible refine Below.setCell ?_ ?_ _) | (with_reducible exact Nat.le_refl _) | (simp; done) | (simp; omega)))⟩
  · go_enter Tryd.func31, Tryd.ntmps31
    go_wp2_with fail
    refine (eqL (H.below (by (repeat' (first | (with_reducible exact Below.refl _ _) | (with_reducible assumption) | (with_reducible refine bStep ?_ (by with_reducible assumption)) | (with_reducible refine bAlloc ?_ _) | (with_reducible refine bDrew ?_) | (with_reducible refine bDrewN ?_ _) | (with_reducible refine Below.setCell ?_ ?_ _) | (with_reducible exact Nat.le_refl _) | (simp; done) | (simp; omega))))) (H'.below (by (repeat' (first | (with_reducible exact Below.refl _ _) | (with_reducible assumption) | (with_reducible refine bStep ?_ (by with_reducible assumption)) | (with_reducible refine bAlloc ?_ _) | (with_reducible refine bDrew ?_) | (with_reducible refine bDrewN ?_ _) | (with_reducible refine Below.setCell ?_ ?_ _) | (with_reducible exact Nat.le_refl _) | (simp; done) | (simp; omega))))) _ _).mono ?_
    rintro e w1 ⟨rfl, q1, rfl⟩
    go_wp2_with fail
    refine (eqL (K.below (by (repeat' (first | (with_reducible exact Below.refl _ _) | (with_reducible assumption) | (with_reducible refine bStep ?_ (by with_reducible assumption)) | (with_reducible refine bAlloc ?_ _) | (with_reducible refine bDrew ?_) | (with_reducible refine bDrewN ?_ _) | (with_reducible refine Below.setCell ?_ ?_ _) | (with_reducible exact Nat.le_refl _) | (simp; done) | (simp; omega))))) (K'.below (by (repeat' (first | (with_reducible exact Below.refl _ _) | (with_reducible assumption) | (with_reducible refine bStep ?_ (by with_reducible assumption)) | (with_reducible refine bAlloc ?_ _) | (with_reducible refine bDrew ?_) | (with_reducible refine bDrewN ?_ _) | (with_reducible refine Below.setCell ?_ ?_ _) | (with_reducible exact Nat.le_refl _) | (simp; done) | (simp; omega))))) _ _).mono ?_
    rintro e w2 ⟨rfl, q2, rfl⟩
    rcases h2 : (ys == ys')
    all_goals
      go_wp2
      go_ret
      exact ⟨ret_b (by rw [h2]; rfl), by (repeat' (first | (with_reducible exact Below.refl _ _) | (with_reducible assumption) | (with_reducible refine bStep ?_ (by with_reducible assumption)) | (with_reducible refine bAlloc ?_ _) | (with_reducible refine bDrew ?_) | (with_reducible refine bDrewN ?_ _) | (with_reducible refine Below.setCell ?_ ?_ _) | (with_reducible exact Nat.le_refl _) | (simp; done) | (simp; omega)))⟩
end Go.Proofs.YtgnpbgknmapejaaDoor
