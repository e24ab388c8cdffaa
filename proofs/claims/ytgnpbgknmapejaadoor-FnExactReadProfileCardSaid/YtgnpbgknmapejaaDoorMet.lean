/- Reading a length: contracts of both sides, and the walk of the law. -/
import Derived.Test.YtgnpbgknmapejaaDoorTxt
import Derived.Test.YtgnpbgknmapejaaDoorMetL
import Derived.Lib.SlicesS
namespace Go.Proofs.YtgnpbgknmapejaaDoor
open Go.RowKit
set_option linter.unusedVariables false

theorem mtx_list (n : Int) : (mtx n).data.toList = mL n := by
  unfold mtx mL
  split
  · rename_i h
    simp [ByteArray.data_append, dg]
  · rename_i h
    simp [ByteArray.data_append, dg]
theorem mtV_list (n : Int) : (mtV n).data.toList = mVL n := by
  unfold mtV mVL
  split
  · exact mtx_list n
  · rfl
theorem bytes_eq {a b : ByteArray} : a = b ↔ a.data.toList = b.data.toList :=
  ⟨fun h => by rw [h], fun h => ByteArray.ext (Array.toList_inj.mp h)⟩
theorem beq_yes {a b : ByteArray} (h : a = b) : (a.toList == b.toList) = true := (Lib.bytes_beq_iff a b).2 h
theorem beq_no {a b : ByteArray} (h : ¬ a = b) : (a.toList == b.toList) = false := (Lib.bytes_beq_false_iff a b).2 h
theorem at_list {s : ByteArray} {k : Nat} (h : k < s.size) : s.data.toList[k]? = some (s[k]'h) := by
  have h' : k < s.data.toList.length := by rw [Array.length_toList]; exact h
  rw [List.getElem?_eq_getElem h', Array.getElem_toList]
  rfl
theorem size_list (s : ByteArray) : s.data.toList.length = s.size := by rw [Array.length_toList]; rfl
/-- what the tail of the reference's reading gives -/
def RM (s : ByteArray) (w : World) (e : Ending) (w' : World) : Prop := e = .returned (.tuple #[.int .i64 (rmN s.data.toList), .bool (rmB s.data.toList)]) ∧ Below w.heap.size w w'
set_option maxHeartbeats 3200000 in
theorem rmS (s : ByteArray) (w : World) (hs : s.size ≤ 2097152) : Calls Tryd.prog 27 #[.string s] w (RM s w) := by
  have hlt0 := fl_lt s.data.toList
  obtain ⟨z, hz⟩ : ∃ z : Nat, s.size = z := ⟨_, rfl⟩
  have hzI : (s.size : Int) = (z : Int) := by omega
  go_enter Tryd.func27, Tryd.ntmps27
  go_wp2_with fail
  go_loopw [4, 5, 6] (fun a b i wr => ∃ k : Nat, k ≤ s.size ∧ i = .int .i64 k ∧ a = .int .i64 ((fl (s.data.toList.take k)).1 : Int) ∧ b = .int .i64 ((fl (s.data.toList.take k)).2 : Int) ∧ wr = w) (fun _ _ i _ => s.size - (intOf i).toNat)
  case atStart => exact ⟨0, Nat.zero_le _, rfl, by simp [fl], by simp [fl], rfl⟩
  case round =>
    obtain ⟨k, hk, rfl, rfl, rfl, rfl⟩ := hrel
    have hn := fl_lt (s.data.toList.take k)
    have hd := (fl_bd (s.data.toList.take k)).2
    obtain ⟨n, hn1⟩ : ∃ n, (fl (s.data.toList.take k)).1 = n := ⟨_, rfl⟩
    obtain ⟨d, hd1⟩ : ∃ d, (fl (s.data.toList.take k)).2 = d := ⟨_, rfl⟩
    have hp : Hid (fl (s.data.toList.take k) = (n, d)) := by show _ = _; rw [← hn1, ← hd1]
    rw [hn1] at hn ⊢
    rw [hd1] at hd ⊢
    by_cases hgo : k < s.size ∧ d < 14
    · have hg1 : (k : Int) < (s.size : Int) := by omega
      have hg2 : (d : Int) < 14 := by omega
      obtain ⟨hk1, hd14⟩ := hgo
      obtain ⟨c, hc⟩ : ∃ c : Nat, (s[k]'hk1).toNat = c := ⟨_, rfl⟩
      have hc8 : c < 256 := by rw [← hc]; exact UInt8.toNat_lt _
      have hst := Lib.hid (fl_step (at_list hk1))
      have hstp : Hid (stp (n, d) (s[k]'hk1) = if 48 ≤ c ∧ c ≤ 57 then (10 * n + (c - 48), d + 1) else (n, d)) := by
        show _ = _
        unfold stp
        rw [hc, if_pos (by simpa using hd14)]
      clear hn1 hd1 hlt0 hz hzI hd14
      by_cases hcd : 48 ≤ c ∧ c ≤ 57
      · have c1 : (48 : Int) ≤ (c : Int) := by omega
        have c2 : (c : Int) ≤ 57 := by omega
        have W1 : IntKind.u8.wrap ((c : Int) - 48) = (c : Int) - 48 := by rw [IntKind.wrap_u8]; omega
        have W2 : IntKind.i64.wrap ((c : Int) - 48) = (c : Int) - 48 := IntWalk.i64_in _ (by omega)
        have W3 : IntKind.i64.wrap (10 * (n : Int)) = 10 * (n : Int) := IntWalk.i64_in _ (by omega)
        have W4 : IntKind.i64.wrap (10 * (n : Int) + ((c : Int) - 48)) = 10 * (n : Int) + ((c : Int) - 48) := IntWalk.i64_in _ (by omega)
        go_wp2_with fail
        go_roundw
        case rel => exact ⟨k + 1, by omega, by go_num, by rw [hst.out, hp.out, hstp.out, if_pos hcd]; congr 1; simp only; omega, by rw [hst.out, hp.out, hstp.out, if_pos hcd]; congr 1, by first | rfl | trivial⟩
        case measure => simp [intOf]; omega
      · rcases (by omega : c < 48 ∨ 57 < c) with h48 | h57
        · have c1 : ¬ (48 : Int) ≤ (c : Int) := by omega
          go_wp2_with fail
          go_roundw
          case rel => exact ⟨k + 1, by omega, by go_num, by rw [hst.out, hp.out, hstp.out, if_neg hcd], by rw [hst.out, hp.out, hstp.out, if_neg hcd], by first | rfl | trivial⟩
          case measure => simp [intOf]; omega
        · have c1 : (48 : Int) ≤ (c : Int) := by omega
          have c2 : ¬ (c : Int) ≤ 57 := by omega
          go_wp2_with fail
          go_roundw
          case rel => exact ⟨k + 1, by omega, by go_num, by rw [hst.out, hp.out, hstp.out, if_neg hcd], by rw [hst.out, hp.out, hstp.out, if_neg hcd], by first | rfl | trivial⟩
          case measure => simp [intOf]; omega
    · have hfl : Hid (fl s.data.toList = (n, d)) := by
        show _ = _
        rw [← hp.out]
        rcases Nat.lt_or_ge k s.size with h1 | h1
        · have h2 : ¬ d < 14 := fun h => hgo ⟨h1, h⟩
          exact fl_stop (by rw [hp.out]; exact h2)
        · rw [List.take_of_length_le (by rw [size_list]; exact h1)]
      clear hn1 hd1 hp
      -- the guard of the loop's test
      have hgd : (¬ (k : Int) < (s.size : Int)) ∨ ((k : Int) < (s.size : Int) ∧ ¬ (d : Int) < 14) := by omega
      clear hgo
      rcases Nat.eq_zero_or_pos s.size with h0 | h0
      · -- the empty text
        have hs0 : s = ⟨#[]⟩ := bytes_eq.2 (by have := size_list s; rw [h0] at this; rw [List.length_eq_zero_iff.1 this])
        obtain rfl : k = 0 := by omega
        clear hgd
        subst hs0
        have fin : Hid (rmN (⟨#[]⟩ : ByteArray).data.toList = 0 ∧ rmB (⟨#[]⟩ : ByteArray).data.toList = false) := by
          have := rm_no (l := (⟨#[]⟩ : ByteArray).data.toList) (fun v _ e => mL_ne v (by rw [e]))
          exact ⟨this.2, this.1⟩
        go_wp2_with fail
        go_ret2
        exact ⟨by rw [fin.out.1, fin.out.2]; first | done | rfl, Below.refl _ _⟩
      · have hse : ¬ s = ⟨#[]⟩ := fun e => by rw [e] at h0; exact absurd h0 (by decide)
        have b0 : s.toList.isEmpty = false := by
          rw [ByteArray.toList_eq, Bool.eq_false_iff]
          intro h
          exact hse (bytes_eq.2 (List.isEmpty_iff.1 h))
        have z0 : (0 : Int) < (s.size : Int) := by omega
        obtain ⟨c, hc⟩ : ∃ c : Nat, (s[0]'h0).toNat = c := ⟨_, rfl⟩
        have hhd : Hid (s.data.toList.head?.map (·.toNat) = some c) := by
          show _ = _
          rw [List.head?_eq_getElem?, at_list h0, ← hc]
          rfl
        obtain ⟨v, hv⟩ : ∃ v : Int, (if c = 45 then -(n : Int) else (n : Int)) = v := ⟨_, rfl⟩
        have hdn : Hid (dn s.data.toList = v) := by
          show _ = _
          unfold dn
          rw [hhd.out, hfl.out, ← hv]
          simp only [Option.some.injEq]
        have hvb : v.natAbs ≤ 100000000000000 := by rw [← hv]; split <;> omega
        have hfin : (mtV v = s ∧ Hid (rmN s.data.toList = v ∧ rmB s.data.toList = true)) ∨ (¬ mtV v = s ∧ Hid (rmN s.data.toList = 0 ∧ rmB s.data.toList = false)) := by
          have hne : s.data.toList ≠ [] := fun e => hse (bytes_eq.2 (by rw [e]))
          by_cases he : mtV v = s
          · left
            have hb : rmB s.data.toList = true := by
              unfold rmB
              apply decide_eq_true
              exact ⟨hne, by rw [hdn.out, ← mtV_list, he]⟩
            exact ⟨he, by unfold rmN; rw [if_pos hb, hdn.out], hb⟩
          · right
            have hb : rmB s.data.toList = false := by
              unfold rmB
              apply decide_eq_false
              rintro ⟨_, h2⟩
              rw [hdn.out, ← mtV_list] at h2
              exact he (bytes_eq.2 h2)
            exact ⟨he, by unfold rmN; rw [hb]; rfl, hb⟩
        clear hdn hhd hfl
        rcases (Decidable.em (c = 45)) with h45 | h45
        · have c45 : (c : Int) = 45 := by omega
          have c46 : ((c : Int) == 45) = true := by rw [c45]; rfl
          obtain rfl : v = -(n : Int) := by rw [← hv, if_pos h45]
          rcases hfin with ⟨he, fin⟩ | ⟨he, fin⟩
          · have b1 := beq_yes he
            rcases hgd with g1 | ⟨g1, g2⟩
            all_goals
              go_wp2_with (go_at_call 28; refine (mtS _ _).mono ?_; rintro e w1 ⟨rfl, hb1⟩)
              go_ret2
              exact ⟨by rw [fin.out.1, fin.out.2]; first | done | rfl, by (repeat' (first | (with_reducible exact Below.refl _ _) | (with_reducible assumption) | (with_reducible refine bStep ?_ (by with_reducible assumption)) | (with_reducible refine bAlloc ?_ _) | (with_reducible refine bDrew ?_) | (with_reducible refine bDrewN ?_ _) | (with_reducible refine Below.setCell ?_ ?_ _) | (with_reducible exact Nat.le_refl _) | (simp; done) | (simp; omega)))⟩
          · have b1 := beq_no he
            rcases hgd with g1 | ⟨g1, g2⟩
            all_goals
              go_wp2_with (go_at_call 28; refine (mtS _ _).mono ?_; rintro e w1 ⟨rfl, hb1⟩)
              go_ret2
              exact ⟨by rw [fin.out.1, fin.out.2]; first | done | rfl, by (repeat' (first | (with_reducible exact Below.refl _ _) | (with_reducible assumption) | (with_reducible refine bStep ?_ (by with_reducible assumption)) | (with_reducible refine bAlloc ?_ _) | (with_reducible refine bDrew ?_) | (with_reducible refine bDrewN ?_ _) | (with_reducible refine Below.setCell ?_ ?_ _) | (with_reducible exact Nat.le_refl _) | (simp; done) | (simp; omega)))⟩
        · have c45 : ¬ (c : Int) = 45 := by omega
          have c46 : ((c : Int) == 45) = false := by rw [beq_eq_false_iff_ne]; exact c45
          obtain rfl : v = (n : Int) := by rw [← hv, if_neg h45]
          rcases hfin with ⟨he, fin⟩ | ⟨he, fin⟩
          · have b1 := beq_yes he
            rcases hgd with g1 | ⟨g1, g2⟩
            all_goals
              go_wp2_with (go_at_call 28; refine (mtS _ _).mono ?_; rintro e w1 ⟨rfl, hb1⟩)
              go_ret2
              exact ⟨by rw [fin.out.1, fin.out.2]; first | done | rfl, by (repeat' (first | (with_reducible exact Below.refl _ _) | (with_reducible assumption) | (with_reducible refine bStep ?_ (by with_reducible assumption)) | (with_reducible refine bAlloc ?_ _) | (with_reducible refine bDrew ?_) | (with_reducible refine bDrewN ?_ _) | (with_reducible refine Below.setCell ?_ ?_ _) | (with_reducible exact Nat.le_refl _) | (simp; done) | (simp; omega)))⟩
          · have b1 := beq_no he
            rcases hgd with g1 | ⟨g1, g2⟩
            all_goals
              go_wp2_with (go_at_call 28; refine (mtS _ _).mono ?_; rintro e w1 ⟨rfl, hb1⟩)
              go_ret2
              exact ⟨by rw [fin.out.1, fin.out.2]; first | done | rfl, by (repeat' (first | (with_reducible exact Below.refl _ _) | (with_reducible assumption) | (with_reducible refine bStep ?_ (by with_reducible assumption)) | (with_reducible refine bAlloc ?_ _) | (with_reducible refine bDrew ?_) | (with_reducible refine bDrewN ?_ _) | (with_reducible refine Below.setCell ?_ ?_ _) | (with_reducible exact Nat.le_refl _) | (simp; done) | (simp; omega)))⟩
end Go.Proofs.YtgnpbgknmapejaaDoor
