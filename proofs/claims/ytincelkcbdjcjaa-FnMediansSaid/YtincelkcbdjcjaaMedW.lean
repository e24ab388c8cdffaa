/- The median: the model's contract and the walk of the exact law. -/
import Derived.Test.YtincelkcbdjcjaaMed
import Derived.Test.YtincelkcbdjcjaaCopy
namespace Go.Proofs.Ytincelkcbdjcjaa
open Go.RowKit
set_option linter.unusedVariables false

set_option maxHeartbeats 1600000 in
theorem mdS {w : World} {A : Option Addr} {n : Nat} {xs : List Int} (H : Ints .i64 w A n xs) (c : Nat) : Calls Try.prog 48 #[.slice A n c] w fun e w' => e = .returned (.tuple #[.int .i64 (mdV xs), .int .i64 (mdC xs)]) ∧ Below w.heap.size w w' := by
  have hlen := Lib.hid H.len
  have hn := H.le
  by_cases h2 : 200 < n
  · have hC : mdC xs = 3 := by have := H.len; simp [mdC, this, h2]
    have hV : mdV xs = 0 := by simp [mdV, hC]
    go_enter Try.func48, Try.ntmps48
    go_wp2_with fail
    first | go_ret2 | (refine bodyPost_ret (by simp [results, Try.results48, go_sem, *]; try rfl) rfl ?_)
    exact ⟨by simp [hC, hV], by (repeat' (first | (with_reducible exact Below.refl _ _) | (with_reducible assumption) | (with_reducible refine bStep ?_ (by with_reducible assumption)) | (with_reducible refine bAlloc ?_ _) | (with_reducible refine bDrew ?_) | (with_reducible refine bDrewN ?_ _) | (with_reducible refine Below.setCell ?_ ?_ _) | (with_reducible exact Nat.le_refl _) | (simp; done) | (simp; omega)))⟩
  have S : Hid (Calls Try.prog 100 #[.slice A n c] w fun e w' => ∃ v, e = .returned v ∧ w'.ownsRow w.heap.size 2 1 v n ((srt xs).map (Value.int .i64)) ∧ Below w.heap.size w w') := sortS H (by omega) c
  have SA : Hid (0 < n → allIn xs (-1000000000000) 1000000000000 = true → mdC xs = 0 ∧ (srt xs)[(n - 1) / 2]? = some (mdV xs)) := by
    intro h0 h1
    have hC : mdC xs = 0 := by have := H.len; simp [mdC, this, h1, h2]; omega
    refine ⟨hC, ?_⟩
    have := srt_at (xs := xs) (by have := H.len; omega)
    rw [H.len] at this
    rw [mdV, if_pos hC, H.len]
    exact this
  go_enter Try.func48, Try.ntmps48
  go_wp2_with fail
  go_loop [4] (fun i => ∃ k : Nat, k ≤ n ∧ i = .int .i64 k ∧ Hid ((xs.take k).all (fun x => inB x (-1000000000000) 1000000000000) = true)) (fun i => n - (intOf i).toNat)
  case atStart => exact ⟨0, Nat.zero_le _, rfl, by simp [Hid]⟩
  case round =>
    obtain ⟨k, hk, rfl, HA⟩ := hrel
    by_cases hlt : k < n
    · obtain ⟨b, off, x, rfl, hb, hc, HX, hw⟩ := H.at_ hlt
      rcases hx : isV x
      · have hA : allIn xs (-1000000000000) 1000000000000 = false := all_no HX.out hx
        have hC : mdC xs = 2 := by have := H.len; simp [mdC, this, h2, hA]
        have hV : mdV xs = 0 := by simp [mdV, hC]
        go_wp2_with (go_at_call 99; refine (isS _ _).mono ?_; rintro e w' ⟨rfl, rfl⟩; rw [hx])
        first | go_ret2 | (refine bodyPost_ret (by simp [results, Try.results48, go_sem, *]; try rfl) rfl ?_)
        exact ⟨by simp [hC, hV], by (repeat' (first | (with_reducible exact Below.refl _ _) | (with_reducible assumption) | (with_reducible refine bStep ?_ (by with_reducible assumption)) | (with_reducible refine bAlloc ?_ _) | (with_reducible refine bDrew ?_) | (with_reducible refine bDrewN ?_ _) | (with_reducible refine Below.setCell ?_ ?_ _) | (with_reducible exact Nat.le_refl _) | (simp; done) | (simp; omega)))⟩
      · go_wp2_with (go_at_call 99; refine (isS _ _).mono ?_; rintro e w' ⟨rfl, rfl⟩; rw [hx])
        go_round
        case rel => exact ⟨k + 1, by omega, by go_num, all_step HA.out HX.out hx⟩
        case measure => simp [intOf]; omega
    · obtain rfl : k = n := by omega
      have h1 : allIn xs (-1000000000000) 1000000000000 = true := all_end H.len HA.out
      by_cases h0 : k = 0
      · subst h0
        have hC : mdC xs = 4 := by have := H.len; simp [mdC, this, h1]
        have hV : mdV xs = 0 := by simp [mdV, hC]
        go_wp2_with fail
        first | go_ret2 | (refine bodyPost_ret (by simp [results, Try.results48, go_sem, *]; try rfl) rfl ?_)
        exact ⟨by first | rfl | (simp only [hC, hV]), by (repeat' (first | (with_reducible exact Below.refl _ _) | (with_reducible assumption) | (with_reducible refine bStep ?_ (by with_reducible assumption)) | (with_reducible refine bAlloc ?_ _) | (with_reducible refine bDrew ?_) | (with_reducible refine bDrewN ?_ _) | (with_reducible refine Below.setCell ?_ ?_ _) | (with_reducible exact Nat.le_refl _) | (simp; done) | (simp; omega)))⟩
      · obtain ⟨hC, hM⟩ := SA.out (by omega) h1
        have HM := Lib.hid hM
        clear hM
        go_wp2_with (go_at_call 100; refine S.out.mono ?_; rintro e w1 ⟨v, rfl, hO, hB⟩; obtain ⟨g, cp, rfl, hcp, hgl⟩ := own_form hO (by omega); have hcM : w1.cell? ⟨g, (k - 1) / 2, none⟩ = some (.int .i64 (mdV xs)) := (by have := hO.cells (g := g) rfl ((k - 1) / 2) (.int .i64 (mdV xs)) (by rw [List.getElem?_map, HM.out]; rfl); rw [addr_add] at this; simpa using this); have HO := Lib.hid hO; clear hO)
        first | go_ret2 | (refine bodyPost_ret (by simp [results, Try.results48, go_sem, *]; try rfl) rfl ?_)
        exact ⟨by simp [hC], by (repeat' (first | (with_reducible exact Below.refl _ _) | (with_reducible assumption) | (with_reducible refine bStep ?_ (by with_reducible assumption)) | (with_reducible refine bAlloc ?_ _) | (with_reducible refine bDrew ?_) | (with_reducible refine bDrewN ?_ _) | (with_reducible refine Below.setCell ?_ ?_ _) | (with_reducible exact Nat.le_refl _) | (simp; done) | (simp; omega)))⟩
theorem wMedianOf {w : World} (A : Option Addr) (n c : Nat) (xs : List Int) (H : Ints .i64 w A n xs) : 
    Calls Try.prog 8 #[.slice A n c] w fun e w' => e = .returned (.bool true) ∧ Below w.heap.size w w' := by
  have hm := H.le
  by_cases hn : n ≤ 1048576
  · go_enter Try.func8, Try.ntmps8
    go_wp2_with fail
    refine (copyL H c hn).mono ?_
    rintro e w1 ⟨g1, rfl, hg1, I1, O1, B1⟩
    have H1 := H.below B1
    clear O1
    go_wp2_with fail
    refine (mdS I1 _).mono ?_
    rintro e w2 ⟨rfl, B2⟩
    have H2 := H1.below B2
    go_wp2_with fail
    refine (copyL H2 c hn).mono ?_
    rintro e w3 ⟨g3, rfl, hg3, I3, O3, B3⟩
    have H3 := H2.below B3
    clear O3
    go_wp2_with fail
    refine (mdI I3 _).mono ?_
    rintro e w4 ⟨rfl, B4⟩
    have H4 := H3.below B4
    have I4 := I3.below B4
    go_wp2_with fail
    refine (copyL H4 c hn).mono ?_
    rintro e w5 ⟨g5, rfl, hg5, I5, O5, B5⟩
    clear O5
    have I6 := I4.below B5
    go_wp2_with fail
    refine (eqL I6 I5 _ _).mono ?_
    rintro e w6 ⟨rfl, q6, rfl⟩
    have e0 : (xs == xs) = true := by simp
    go_wp2
    go_ret
    exact ⟨rfl, by (repeat' (first | (with_reducible exact Below.refl _ _) | (with_reducible assumption) | (with_reducible refine bStep ?_ (by with_reducible assumption)) | (with_reducible refine bAlloc ?_ _) | (with_reducible refine bDrew ?_) | (with_reducible refine bDrewN ?_ _) | (with_reducible refine Below.setCell ?_ ?_ _) | (with_reducible exact Nat.le_refl _) | (simp; done) | (simp; omega)))⟩
  · go_enter Try.func8, Try.ntmps8
    go_wp2
    go_ret
    exact ⟨rfl, Below.refl _ _⟩
end Go.Proofs.Ytincelkcbdjcjaa
