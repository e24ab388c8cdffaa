/- Reading a length as the program does, and the walk of the law. -/
import Derived.Test.YtgnpbgknmapejaaDoorMet
import Derived.Test.YtgnpbgknmapejaaDoorEnvOf
namespace Go.Proofs.YtgnpbgknmapejaaDoor
open Go.RowKit
set_option linter.unusedVariables false

theorem rep_len (l : List UInt8) : (Lib.replace l [46] [] 1).length ≤ l.length := by
  by_cases h : (46 : UInt8) ∈ l
  · obtain ⟨a, b, rfl, hn⟩ := List.eq_append_cons_of_mem h
    rw [rep_at hn]
    simp
  · have e : Lib.replace l [46] [] 1 = l := by
      have hi : Lib.index l [46] = -1 := by rw [Lib.index_one]; exact idx_no 46 l h
      have hc : Lib.count l [46] = 0 := by
        unfold Lib.count
        rw [Lib.countFrom, hi]
        rfl
      unfold Lib.replace
      have e1 : (([46] : List UInt8) == []) = false := rfl
      rw [e1]
      unfold Lib.replaceNum
      rw [hc]
      rfl
    rw [e]
    exact Nat.le_refl _
theorem repI (s : ByteArray) (w : World) (hs : s.size ≤ 2097152) (E : Env w) : Calls Tryd.prog 71 #[.string s, .string ⟨#[46]⟩, .string ⟨#[]⟩, .int .i64 1] w fun e w' => ∃ r : ByteArray, e = .returned (.string r) ∧ (Hid (r.data.toList = Lib.replace s.data.toList [46] [] 1) ∧ r.size ≤ 2097152) ∧ Below w.heap.size w w' := by
  obtain ⟨_, _, _, m, hm⟩ := E
  refine (Tryd.strings_Replace s ⟨#[46]⟩ ⟨#[]⟩ 1 m w (by omega) hm (by decide) (by rw [sz0, Nat.mul_zero]; omega)).mono ?_
  rintro e w' ⟨rfl, hb⟩
  refine ⟨_, rfl, ⟨rfl, ?_⟩, hb⟩
  have h1 := rep_len s.data.toList
  have h2 := size_list s
  show (Lib.replace s.data.toList [46] [] 1).toArray.size ≤ _
  rw [List.size_toArray]
  omega
set_option maxHeartbeats 3200000 in
theorem rmI (s : ByteArray) (w : World) (hs : s.size ≤ 2097152) (E : Env w) : Calls Tryd.prog 25 #[.string s] w (RM s w) := by
  have E := Lib.hid E
  go_enter Tryd.func25, Tryd.ntmps25
  go_wp2_with (go_at_call 71; refine (repI s _ hs E.out).mono ?_; rintro e w1 ⟨r, rfl, ⟨hr, hrs⟩, hb1⟩)
  refine (parI r _ (by omega) (E.out.below hb1)).mono ?_
  rintro e w2 ⟨v, err, rfl, hv, hbd, hb2⟩
  rw [hr.out] at hv
  have HV := Lib.hid hv
  clear hv
  rcases HV.out with ⟨h1, rfl⟩ | ⟨h1, T, P, rfl⟩
  · have hp := rm_parse h1
    have H1 := Lib.hid h1
    clear h1 HV
    rcases hp with ⟨a1, a2, a3, a4⟩ | ⟨a1, a3, a4⟩
    · have fin : Hid (rmN s.data.toList = v ∧ rmB s.data.toList = true) := ⟨a4, a3⟩
      have he : mtx v = s := bytes_eq.2 (by rw [mtx_list]; exact a2)
      have b1 := beq_yes he
      have vb := isV_t a1
      clear a2 a3 a4 he
      go_wp2_with (first | (go_at_call 68; refine (isI _ _).mono ?_; rintro e w3 ⟨rfl, rfl⟩) | (go_at_call 69; refine (mtxI v _ (E.out.tab.below (by (repeat' (first | (with_reducible exact Below.refl _ _) | (with_reducible assumption) | (with_reducible refine bStep ?_ (by with_reducible assumption)) | (with_reducible refine bAlloc ?_ _) | (with_reducible refine bDrew ?_) | (with_reducible refine bDrewN ?_ _) | (with_reducible refine Below.setCell ?_ ?_ _) | (with_reducible exact Nat.le_refl _) | (simp; done) | (simp; omega))))) (by omega)).mono ?_; rintro e w4 ⟨rfl, hb4⟩))
      go_ret2
      exact ⟨by rw [fin.out.1, fin.out.2]; first | done | rfl, by (repeat' (first | (with_reducible exact Below.refl _ _) | (with_reducible assumption) | (with_reducible refine bStep ?_ (by with_reducible assumption)) | (with_reducible refine bAlloc ?_ _) | (with_reducible refine bDrew ?_) | (with_reducible refine bDrewN ?_ _) | (with_reducible refine Below.setCell ?_ ?_ _) | (with_reducible exact Nat.le_refl _) | (simp; done) | (simp; omega)))⟩
    · have fin : Hid (rmN s.data.toList = 0 ∧ rmB s.data.toList = false) := ⟨a4, a3⟩
      clear a3 a4
      rcases hV : isV v
      · go_wp2_with (first | (go_at_call 68; refine (isI _ _).mono ?_; rintro e w3 ⟨rfl, rfl⟩) | (go_at_call 69; refine (mtxI v _ (E.out.tab.below (by (repeat' (first | (with_reducible exact Below.refl _ _) | (with_reducible assumption) | (with_reducible refine bStep ?_ (by with_reducible assumption)) | (with_reducible refine bAlloc ?_ _) | (with_reducible refine bDrew ?_) | (with_reducible refine bDrewN ?_ _) | (with_reducible refine Below.setCell ?_ ?_ _) | (with_reducible exact Nat.le_refl _) | (simp; done) | (simp; omega))))) (by omega)).mono ?_; rintro e w4 ⟨rfl, hb4⟩))
        go_ret2
        exact ⟨by rw [fin.out.1, fin.out.2]; first | done | rfl, by (repeat' (first | (with_reducible exact Below.refl _ _) | (with_reducible assumption) | (with_reducible refine bStep ?_ (by with_reducible assumption)) | (with_reducible refine bAlloc ?_ _) | (with_reducible refine bDrew ?_) | (with_reducible refine bDrewN ?_ _) | (with_reducible refine Below.setCell ?_ ?_ _) | (with_reducible exact Nat.le_refl _) | (simp; done) | (simp; omega)))⟩
      · have a2 : mL v ≠ s.data.toList := by
          rcases a1 with h | h
          · rw [hV] at h; cases h
          · exact h
        have he : ¬ mtx v = s := fun e => a2 (by rw [← mtx_list, e])
        have b1 := beq_no he
        have vb := isV_t hV
        clear a1 a2 he
        go_wp2_with (first | (go_at_call 68; refine (isI _ _).mono ?_; rintro e w3 ⟨rfl, rfl⟩) | (go_at_call 69; refine (mtxI v _ (E.out.tab.below (by (repeat' (first | (with_reducible exact Below.refl _ _) | (with_reducible assumption) | (with_reducible refine bStep ?_ (by with_reducible assumption)) | (with_reducible refine bAlloc ?_ _) | (with_reducible refine bDrew ?_) | (with_reducible refine bDrewN ?_ _) | (with_reducible refine Below.setCell ?_ ?_ _) | (with_reducible exact Nat.le_refl _) | (simp; done) | (simp; omega))))) (by omega)).mono ?_; rintro e w4 ⟨rfl, hb4⟩))
        go_ret2
        exact ⟨by rw [fin.out.1, fin.out.2]; first | done | rfl, by (repeat' (first | (with_reducible exact Below.refl _ _) | (with_reducible assumption) | (with_reducible refine bStep ?_ (by with_reducible assumption)) | (with_reducible refine bAlloc ?_ _) | (with_reducible refine bDrew ?_) | (with_reducible refine bDrewN ?_ _) | (with_reducible refine Below.setCell ?_ ?_ _) | (with_reducible exact Nat.le_refl _) | (simp; done) | (simp; omega)))⟩
  · have hf := rm_fail h1
    have fin : Hid (rmN s.data.toList = 0 ∧ rmB s.data.toList = false) := ⟨hf.2, hf.1⟩
    clear hf h1 HV
    go_wp2_with fail
    go_ret2
    exact ⟨by rw [fin.out.1, fin.out.2]; first | done | rfl, by (repeat' (first | (with_reducible exact Below.refl _ _) | (with_reducible assumption) | (with_reducible refine bStep ?_ (by with_reducible assumption)) | (with_reducible refine bAlloc ?_ _) | (with_reducible refine bDrew ?_) | (with_reducible refine bDrewN ?_ _) | (with_reducible refine Below.setCell ?_ ?_ _) | (with_reducible exact Nat.le_refl _) | (simp; done) | (simp; omega)))⟩
theorem wReadMetres {w : World} (s : ByteArray) (hs0 : s.size ≤ maxLen) (E : Env w) : Calls Tryd.prog 11 #[.string s] w fun e w' => e = .returned (.bool true) ∧ Below w.heap.size w w' := by
  have E := Lib.hid E
  by_cases hbig : (1048576 : Int) < (s.size : Int)
  · go_enter Tryd.func11, Tryd.ntmps11
    go_wp2_with fail
    go_ret
    exact ⟨rfl, by (repeat' (first | (with_reducible exact Below.refl _ _) | (with_reducible assumption) | (with_reducible refine bStep ?_ (by with_reducible assumption)) | (with_reducible refine bAlloc ?_ _) | (with_reducible refine bDrew ?_) | (with_reducible refine bDrewN ?_ _) | (with_reducible refine Below.setCell ?_ ?_ _) | (with_reducible exact Nat.le_refl _) | (simp; done) | (simp; omega)))⟩
  · have hs : s.size ≤ 2097152 := by omega
    obtain ⟨n, hn⟩ : ∃ n, rmN s.data.toList = n := ⟨_, rfl⟩
    obtain ⟨b, hb⟩ : ∃ b, rmB s.data.toList = b := ⟨_, rfl⟩
    have q1 : (n != n) = false := by simp
    have q2 : (b != b) = false := by simp
    go_enter Tryd.func11, Tryd.ntmps11
    go_wp2_with (first | (go_at_call 27; refine (rmS s _ hs).mono ?_; rintro e w1 ⟨rfl, hb1⟩; rw [hn, hb]) | (go_at_call 25; refine (rmI s _ hs (E.out.below (by (repeat' (first | (with_reducible exact Below.refl _ _) | (with_reducible assumption) | (with_reducible refine bStep ?_ (by with_reducible assumption)) | (with_reducible refine bAlloc ?_ _) | (with_reducible refine bDrew ?_) | (with_reducible refine bDrewN ?_ _) | (with_reducible refine Below.setCell ?_ ?_ _) | (with_reducible exact Nat.le_refl _) | (simp; done) | (simp; omega)))))).mono ?_; rintro e w2 ⟨rfl, hb2⟩; rw [hn, hb]))
    go_ret
    exact ⟨rfl, by (repeat' (first | (with_reducible exact Below.refl _ _) | (with_reducible assumption) | (with_reducible refine bStep ?_ (by with_reducible assumption)) | (with_reducible refine bAlloc ?_ _) | (with_reducible refine bDrew ?_) | (with_reducible refine bDrewN ?_ _) | (with_reducible refine Below.setCell ?_ ?_ _) | (with_reducible exact Nat.le_refl _) | (simp; done) | (simp; omega)))⟩
end Go.Proofs.YtgnpbgknmapejaaDoor
