/- The law on texts of lengths. -/
import Derived.Test.YtgnpbgknmapejaaDoorDrawM
import Derived.Test.YtgnpbgknmapejaaDoorMetI
import Derived.Test.YtgnpbgknmapejaaDoorDice
namespace Go.Proofs.YtgnpbgknmapejaaDoor
open Go.RowKit
set_option linter.unusedVariables false
variable {w : World}

set_option maxHeartbeats 6400000 in
theorem wMetres (A : Option Addr) (n c : Nat) (zs : List Int) (H : Ints .u8 w A n zs) (E : Env w) :
    Calls Tryd.prog 4 #[.slice A n c] w fun e w' => e = .returned (.bool true) ∧ Below w.heap.size w w' := by
  have hn := H.le
  have E := Lib.hid E
  by_cases hb : (4096 : Int) < (n : Int)
  · go_enter Tryd.func4, Tryd.ntmps4
    go_wp2_with (first | (go_at_call 13; refine (bigL _ _ _ _).mono ?_; rintro e w' ⟨rfl, rfl⟩))
    go_ret
    exact ⟨rfl, Below.refl _ _⟩
  go_enter Tryd.func4, Tryd.ntmps4
  go_wp2_with (first | (go_at_call 13; refine (bigL _ _ _ _).mono ?_; rintro e w' ⟨rfl, rfl⟩))
  refine (drMetresText H c).mono ?_
  rintro e w1 ⟨x, rfl, hx, hb1⟩
  have sz := mtV_sz x
  obtain ⟨t, ht⟩ : ∃ t, mtV x = t := ⟨_, rfl⟩
  have HT := Lib.hid ht
  rw [ht] at sz
  clear ht
  have fin1 : (rmB t.data.toList = true ∧ rmN t.data.toList = x ∧ t.toList.isEmpty = false) ∨ (rmB t.data.toList = false ∧ t.toList.isEmpty = true) := by
    have e : t.data.toList = mVL x := by rw [← HT.out, mtV_list]
    have e0 : t.toList = t.data.toList := ByteArray.toList_eq t
    rw [e0, e]
    unfold mVL
    rcases hv : isV x
    · right
      simp only [Bool.false_eq_true, if_false]
      exact ⟨(rm_no (fun v _ h => mL_ne v h)).1, rfl⟩
    · left
      have y := rm_yes hv rfl
      simp only [if_true]
      refine ⟨y.1, y.2, ?_⟩
      rw [Bool.eq_false_iff]
      intro h
      exact mL_ne x (List.isEmpty_iff.1 h)
  go_wp2_with fail
  refine (mtI x _ (E.out.tab.below (by (repeat' (first | (with_reducible exact Below.refl _ _) | (with_reducible assumption) | (with_reducible refine bStep ?_ (by with_reducible assumption)) | (with_reducible refine bAlloc ?_ _) | (with_reducible refine bDrew ?_) | (with_reducible refine bDrewN ?_ _) | (with_reducible refine Below.setCell ?_ ?_ _) | (with_reducible exact Nat.le_refl _) | (simp; done) | (simp; omega)))))).mono ?_
  rintro e w2 ⟨rfl, hb2⟩
  rw [HT.out]
  go_wp2_with fail
  refine (rmI t _ (by omega) (E.out.below (by (repeat' (first | (with_reducible exact Below.refl _ _) | (with_reducible assumption) | (with_reducible refine bStep ?_ (by with_reducible assumption)) | (with_reducible refine bAlloc ?_ _) | (with_reducible refine bDrew ?_) | (with_reducible refine bDrewN ?_ _) | (with_reducible refine Below.setCell ?_ ?_ _) | (with_reducible exact Nat.le_refl _) | (simp; done) | (simp; omega)))))).mono ?_
  rintro e w3 ⟨rfl, hb3⟩
  go_wp2_with fail
  refine (drReadMetres (H.below (by (repeat' (first | (with_reducible exact Below.refl _ _) | (with_reducible assumption) | (with_reducible refine bStep ?_ (by with_reducible assumption)) | (with_reducible refine bAlloc ?_ _) | (with_reducible refine bDrew ?_) | (with_reducible refine bDrewN ?_ _) | (with_reducible refine Below.setCell ?_ ?_ _) | (with_reducible exact Nat.le_refl _) | (simp; done) | (simp; omega))))) c).mono ?_
  rintro e w4 ⟨r, rfl, hr, hb4⟩
  have fin2 : (rmB r.data.toList = true ∧ Hid (mtV (rmN r.data.toList) = r)) ∨ rmB r.data.toList = false := by
    rcases hb : rmB r.data.toList
    · right; rfl
    · left
      refine ⟨rfl, ?_⟩
      show _ = _
      unfold rmN
      rw [if_pos hb]
      have h := hb
      unfold rmB at h
      exact bytes_eq.2 (by rw [mtV_list]; exact (of_decide_eq_true h).2)
  go_wp2_with fail
  refine (rmI r _ (by omega) (E.out.below (by (repeat' (first | (with_reducible exact Below.refl _ _) | (with_reducible assumption) | (with_reducible refine bStep ?_ (by with_reducible assumption)) | (with_reducible refine bAlloc ?_ _) | (with_reducible refine bDrew ?_) | (with_reducible refine bDrewN ?_ _) | (with_reducible refine Below.setCell ?_ ?_ _) | (with_reducible exact Nat.le_refl _) | (simp; done) | (simp; omega)))))).mono ?_
  rintro e w5 ⟨rfl, hb5⟩
  go_wp2_with fail
  refine (rmS r _ (by omega)).mono ?_
  rintro e w6 ⟨rfl, hb6⟩
  obtain ⟨y, hy⟩ : ∃ y, rmN r.data.toList = y := ⟨_, rfl⟩
  rw [hy] at fin2 ⊢
  clear hy
  have E2 := beq_yes (rfl : t = t)
  rcases fin1 with ⟨a1, a2, a3⟩ | ⟨a1, a3⟩ <;> rcases fin2 with ⟨b1, b2⟩ | b1
  · have b3 := beq_yes b2.out
    rw [a1, a2, b1]
    go_wp2_with (first | (go_at_call 28; refine (mtS _ _).mono ?_; rintro e w7 ⟨rfl, hb7⟩; rw [HT.out]) | (go_at_call 24; refine (mtI y _ (E.out.tab.below (by (repeat' (first | (with_reducible exact Below.refl _ _) | (with_reducible assumption) | (with_reducible refine bStep ?_ (by with_reducible assumption)) | (with_reducible refine bAlloc ?_ _) | (with_reducible refine bDrew ?_) | (with_reducible refine bDrewN ?_ _) | (with_reducible refine Below.setCell ?_ ?_ _) | (with_reducible exact Nat.le_refl _) | (simp; done) | (simp; omega)))))).mono ?_; rintro e w8 ⟨rfl, hb8⟩))
    go_ret
    exact ⟨by first | rfl | (simp; done), by (repeat' (first | (with_reducible exact Below.refl _ _) | (with_reducible assumption) | (with_reducible refine bStep ?_ (by with_reducible assumption)) | (with_reducible refine bAlloc ?_ _) | (with_reducible refine bDrew ?_) | (with_reducible refine bDrewN ?_ _) | (with_reducible refine Below.setCell ?_ ?_ _) | (with_reducible exact Nat.le_refl _) | (simp; done) | (simp; omega)))⟩
  · rw [a1, a2, b1]
    go_wp2_with (first | (go_at_call 28; refine (mtS _ _).mono ?_; rintro e w7 ⟨rfl, hb7⟩; rw [HT.out]) | (go_at_call 24; refine (mtI y _ (E.out.tab.below (by (repeat' (first | (with_reducible exact Below.refl _ _) | (with_reducible assumption) | (with_reducible refine bStep ?_ (by with_reducible assumption)) | (with_reducible refine bAlloc ?_ _) | (with_reducible refine bDrew ?_) | (with_reducible refine bDrewN ?_ _) | (with_reducible refine Below.setCell ?_ ?_ _) | (with_reducible exact Nat.le_refl _) | (simp; done) | (simp; omega)))))).mono ?_; rintro e w8 ⟨rfl, hb8⟩))
    go_ret
    exact ⟨by first | rfl | (simp; done), by (repeat' (first | (with_reducible exact Below.refl _ _) | (with_reducible assumption) | (with_reducible refine bStep ?_ (by with_reducible assumption)) | (with_reducible refine bAlloc ?_ _) | (with_reducible refine bDrew ?_) | (with_reducible refine bDrewN ?_ _) | (with_reducible refine Below.setCell ?_ ?_ _) | (with_reducible exact Nat.le_refl _) | (simp; done) | (simp; omega)))⟩
  · have b3 := beq_yes b2.out
    rw [a1, b1]
    go_wp2_with (first | (go_at_call 28; refine (mtS _ _).mono ?_; rintro e w7 ⟨rfl, hb7⟩; rw [HT.out]) | (go_at_call 24; refine (mtI y _ (E.out.tab.below (by (repeat' (first | (with_reducible exact Below.refl _ _) | (with_reducible assumption) | (with_reducible refine bStep ?_ (by with_reducible assumption)) | (with_reducible refine bAlloc ?_ _) | (with_reducible refine bDrew ?_) | (with_reducible refine bDrewN ?_ _) | (with_reducible refine Below.setCell ?_ ?_ _) | (with_reducible exact Nat.le_refl _) | (simp; done) | (simp; omega)))))).mono ?_; rintro e w8 ⟨rfl, hb8⟩))
    go_ret
    exact ⟨by first | rfl | (simp; done), by (repeat' (first | (with_reducible exact Below.refl _ _) | (with_reducible assumption) | (with_reducible refine bStep ?_ (by with_reducible assumption)) | (with_reducible refine bAlloc ?_ _) | (with_reducible refine bDrew ?_) | (with_reducible refine bDrewN ?_ _) | (with_reducible refine Below.setCell ?_ ?_ _) | (with_reducible exact Nat.le_refl _) | (simp; done) | (simp; omega)))⟩
  · rw [a1, b1]
    go_wp2_with (first | (go_at_call 28; refine (mtS _ _).mono ?_; rintro e w7 ⟨rfl, hb7⟩; rw [HT.out]) | (go_at_call 24; refine (mtI y _ (E.out.tab.below (by (repeat' (first | (with_reducible exact Below.refl _ _) | (with_reducible assumption) | (with_reducible refine bStep ?_ (by with_reducible assumption)) | (with_reducible refine bAlloc ?_ _) | (with_reducible refine bDrew ?_) | (with_reducible refine bDrewN ?_ _) | (with_reducible refine Below.setCell ?_ ?_ _) | (with_reducible exact Nat.le_refl _) | (simp; done) | (simp; omega)))))).mono ?_; rintro e w8 ⟨rfl, hb8⟩))
    go_ret
    exact ⟨by first | rfl | (simp; done), by (repeat' (first | (with_reducible exact Below.refl _ _) | (with_reducible assumption) | (with_reducible refine bStep ?_ (by with_reducible assumption)) | (with_reducible refine bAlloc ?_ _) | (with_reducible refine bDrew ?_) | (with_reducible refine bDrewN ?_ _) | (with_reducible refine Below.setCell ?_ ?_ _) | (with_reducible exact Nat.le_refl _) | (simp; done) | (simp; omega)))⟩
end Go.Proofs.YtgnpbgknmapejaaDoor
