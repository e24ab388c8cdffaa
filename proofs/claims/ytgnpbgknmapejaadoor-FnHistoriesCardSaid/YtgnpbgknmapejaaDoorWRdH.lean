/- Reading a history from its letters: the walk of the exact law. -/
import Derived.Test.YtgnpbgknmapejaaDoorRdHI
namespace Go.Proofs.YtgnpbgknmapejaaDoor
open Go.RowKit
set_option linter.unusedVariables false

def RHQ (L : List Int) (q : Bool) (w : World) (e : Ending) (w' : World) : Prop := ∃ A n c, e = .returned (.tuple #[.slice A n c, .bool q]) ∧ w'.ownsRow w.heap.size 2 1 (.slice A n c) n (L.map (Value.int .i64)) ∧ Below w.heap.size w w'
theorem rhL_len (l : List UInt8) : (rhL l).length ≤ 100 := by
  unfold rhL
  rcases h : hOk l
  · simp
  · simp only [if_true, List.length_map]
    unfold hOk at h
    rw [Bool.and_eq_true] at h
    exact of_decide_eq_true h.2
theorem rhL_wf (l : List UInt8) : ∀ x ∈ rhL l, (Lit.int .i64 x).wf = true := by
  intro x hx
  unfold rhL at hx
  split at hx
  · obtain ⟨b, _, rfl⟩ := List.mem_map.1 hx
    have := hd_rng b
    exact WalkArith.wf_i64 (by omega)
  · cases hx
set_option maxHeartbeats 3200000 in
theorem wReadHistory {w : World} (s : ByteArray) (hs0 : s.size ≤ maxLen) (E : True) : Calls Tryd.prog 8 #[.string s] w fun e w' => e = .returned (.bool true) ∧ Below w.heap.size w w' := by
  by_cases hbig : (1048576 : Int) < (s.size : Int)
  · go_enter Tryd.func8, Tryd.ntmps8
    go_wp2_with fail
    go_ret
    exact ⟨rfl, by (repeat' (first | (with_reducible exact Below.refl _ _) | (with_reducible assumption) | (with_reducible refine bStep ?_ (by with_reducible assumption)) | (with_reducible refine bAlloc ?_ _) | (with_reducible refine bDrew ?_) | (with_reducible refine bDrewN ?_ _) | (with_reducible refine Below.setCell ?_ ?_ _) | (with_reducible exact Nat.le_refl _) | (simp; done) | (simp; omega)))⟩
  · have hs : s.size ≤ 2097152 := by omega
    have hwf := Lib.hid (rhL_wf (bl s))
    have htl := Lib.hid (rhL_len (bl s))
    obtain ⟨L, hL⟩ : ∃ L, rhL (bl s) = L := ⟨_, rfl⟩
    obtain ⟨q, hq⟩ : ∃ q, hOk (bl s) = q := ⟨_, rfl⟩
    have KS : Hid (∀ w0 : World, Calls Tryd.prog 35 #[.string s] w0 (RHQ L q w0)) := fun w0 => by have := rhS s w0 hs; unfold RH at this; rw [hL, hq] at this; exact this
    have KI : Hid (∀ w0 : World, Calls Tryd.prog 36 #[.string s] w0 (RHQ L q w0)) := fun w0 => by have := rhI s w0 hs; unfold RH at this; rw [hL, hq] at this; exact this
    rw [hL] at hwf htl
    clear hL hq
    have q2 : (q != q) = false := by simp
    have e1 : (L == L) = true := by simp
    go_enter Tryd.func8, Tryd.ntmps8
    go_wp2_with fail
    refine (KS.out _).mono ?_
    rintro e w2 ⟨A2, m2, c2, rfl, O2, B2⟩
    have hz2 := B2.size
    have hm2 : m2 ≤ 100 := by have h := O2.1; have := htl.out; simp at h; omega
    have J2 := Ints.of_own O2 (by omega) hwf.out
    clear O2
    go_wp2_with fail
    refine (KI.out _).mono ?_
    rintro e w4 ⟨A4, m4, c4, rfl, O4, B4⟩
    have hz4 := B4.size
    have hm4 : m4 ≤ 100 := by have h := O4.1; have := htl.out; simp at h; omega
    have J4 := Ints.of_own O4 (by omega) hwf.out
    have O4a := Lib.hid O4
    have J2a := Lib.hid J2
    clear O4 J2
    go_wp2_with fail
    refine (eqL J4 (J2a.out.below (by (repeat' (first | (with_reducible exact Below.refl _ _) | (with_reducible assumption) | (with_reducible refine bStep ?_ (by with_reducible assumption)) | (with_reducible refine bAlloc ?_ _) | (with_reducible refine bDrew ?_) | (with_reducible refine bDrewN ?_ _) | (with_reducible refine Below.setCell ?_ ?_ _) | (with_reducible exact Nat.le_refl _) | (simp; done) | (simp; omega))))) _ _).mono ?_
    rintro e w5 ⟨rfl, q5, rfl⟩
    clear J4
    go_wp2_with fail
    have O4c := own_below (w' := w4.drewN q5) O4a.out (by (repeat' (first | (with_reducible exact Below.refl _ _) | (with_reducible assumption) | (with_reducible refine bStep ?_ (by with_reducible assumption)) | (with_reducible refine bAlloc ?_ _) | (with_reducible refine bDrew ?_) | (with_reducible refine bDrewN ?_ _) | (with_reducible refine Below.setCell ?_ ?_ _) | (with_reducible exact Nat.le_refl _) | (simp; done) | (simp; omega))))
    have hob := own_base O4c
    refine (markO (k := 1) O4c (by omega) (by omega)).mono ?_
    rintro e w10 ⟨rfl, O10, G10⟩
    have T10w : Below w.heap.size w w10 := Below.trans (b := w4.drewN q5) (by (repeat' (first | (with_reducible exact Below.refl _ _) | (with_reducible assumption) | (with_reducible refine bStep ?_ (by with_reducible assumption)) | (with_reducible refine bAlloc ?_ _) | (with_reducible refine bDrew ?_) | (with_reducible refine bDrewN ?_ _) | (with_reducible refine Below.setCell ?_ ?_ _) | (with_reducible exact Nat.le_refl _) | (simp; done) | (simp; omega)))) (below_grown G10 (by simp; omega) (fun k e => by have := hob k e; omega))
    have T10 : Below w2.heap.size w2 w10 := Below.trans (b := w4.drewN q5) (by (repeat' (first | (with_reducible exact Below.refl _ _) | (with_reducible assumption) | (with_reducible refine bStep ?_ (by with_reducible assumption)) | (with_reducible refine bAlloc ?_ _) | (with_reducible refine bDrew ?_) | (with_reducible refine bDrewN ?_ _) | (with_reducible refine Below.setCell ?_ ?_ _) | (with_reducible exact Nat.le_refl _) | (simp; done) | (simp; omega)))) (below_grown G10 (by simp; omega) (fun k e => by have := hob k e; omega))
    have hz10 := T10.size
    have J10 := Ints.of_own O10 (by omega) (marks_wf (by omega))
    clear G10 O4c hob O4a
    have ng2 : ¬ ((1 + m4 : Nat) : Int) < 0 := by omega
    go_wp2_with fail
    refine (heldL (k := 1) J10 (by omega) (by omega)).mono ?_
    rintro e w11 ⟨rfl, q11, rfl⟩
    clear J10
    have J10 := Lib.hid (Ints.of_own O10 (by omega) (marks_wf (by omega)))
    clear O10
    go_wp2_with fail
    refine (KI.out _).mono ?_
    rintro e w13 ⟨A13, m13, c13, rfl, O13, B13⟩
    have hz13 := B13.size
    simp at hz13
    have hm13 : m13 ≤ 100 := by have h := O13.1; have := htl.out; simp at h; omega
    have J13 := Ints.of_own O13 (by omega) hwf.out
    clear O13
    go_wp2_with fail
    refine (eqL J13 (J2a.out.below (by (repeat' (first | (with_reducible exact Below.refl _ _) | (with_reducible assumption) | (with_reducible refine bStep ?_ (by with_reducible assumption)) | (with_reducible refine bAlloc ?_ _) | (with_reducible refine bDrew ?_) | (with_reducible refine bDrewN ?_ _) | (with_reducible refine Below.setCell ?_ ?_ _) | (with_reducible exact Nat.le_refl _) | (simp; done) | (simp; omega))))) _ _).mono ?_
    rintro e w14 ⟨rfl, q14, rfl⟩
    go_wp2_with fail
    refine (heldL (k := 1) (J10.out.below (by (repeat' (first | (with_reducible exact Below.refl _ _) | (with_reducible assumption) | (with_reducible refine bStep ?_ (by with_reducible assumption)) | (with_reducible refine bAlloc ?_ _) | (with_reducible refine bDrew ?_) | (with_reducible refine bDrewN ?_ _) | (with_reducible refine Below.setCell ?_ ?_ _) | (with_reducible exact Nat.le_refl _) | (simp; done) | (simp; omega))))) (by omega) (by omega)).mono ?_
    rintro e w15 ⟨rfl, q15, rfl⟩
    clear J10 J13
    go_wp2
    go_ret
    exact ⟨rfl, by (repeat' (first | (with_reducible exact Below.refl _ _) | (with_reducible assumption) | (with_reducible refine bStep ?_ (by with_reducible assumption)) | (with_reducible refine bAlloc ?_ _) | (with_reducible refine bDrew ?_) | (with_reducible refine bDrewN ?_ _) | (with_reducible refine Below.setCell ?_ ?_ _) | (with_reducible exact Nat.le_refl _) | (simp; done) | (simp; omega)))⟩
end Go.Proofs.YtgnpbgknmapejaaDoor
