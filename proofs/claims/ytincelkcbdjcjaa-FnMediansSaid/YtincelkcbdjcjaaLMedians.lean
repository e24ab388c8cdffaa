/- The law on medians. -/
import Derived.Test.YtincelkcbdjcjaaDrawV
import Derived.Test.YtincelkcbdjcjaaMedW
import Derived.Test.YtincelkcbdjcjaaDice
namespace Go.Proofs.Ytincelkcbdjcjaa
open Go.RowKit
set_option linter.unusedVariables false

theorem hasL {w : World} {A : Option Addr} {n : Nat} {xs : List Int} (H : Ints .i64 w A n xs) (c : Nat) {x : Int} (hx : x ∈ xs) : Calls Try.prog 52 #[.slice A n c, .int .i64 x] w fun e w' => e = .returned (.bool true) ∧ w = w' := by
  have hn := H.le
  have HX0 := Lib.hid hx
  clear hx
  go_enter Try.func52, Try.ntmps52
  go_wp2
  go_loop [5] (fun i => ∃ k : Nat, k ≤ n ∧ i = .int .i64 (k : Int) ∧ Hid (∀ y ∈ xs.take k, y ≠ x)) (fun i => n - (intOf i).toNat)
  case atStart => exact ⟨0, Nat.zero_le _, rfl, by simp [Hid]⟩
  case round =>
    obtain ⟨k, hk, rfl, HA⟩ := hrel
    by_cases hlt : k < n
    · obtain ⟨b, off, y, rfl, hb, hc, HX, hw⟩ := H.at_ hlt
      rcases hq : (y == x)
      · have hne : y ≠ x := by simpa using hq
        have ST : Hid (∀ z ∈ xs.take (k + 1), z ≠ x) := by
          intro z hz
          rw [take_step HX.out] at hz
          rcases List.mem_append.1 hz with h | h
          · exact HA.out z h
          · rw [List.mem_singleton.1 h]; exact hne
        go_wp2
        go_round
        case rel => exact ⟨k + 1, by omega, by go_num, ST.out⟩
        case measure => simp [intOf]; omega
      · go_wp2
        go_ret
        exact ⟨rfl, rfl⟩
    · obtain rfl : k = n := by omega
      have := HA.out x (by rw [List.take_of_length_le (by have := H.len; omega)]; exact HX0.out)
      exact absurd rfl this
set_option maxHeartbeats 6400000 in
theorem wMedians {w : World} (A : Option Addr) (n c : Nat) (zs : List Int) (H : Ints .u8 w A n zs) :
    Calls Try.prog 7 #[.slice A n c] w fun e w' => e = .returned (.bool true) ∧ Below w.heap.size w w' := by
  have hn := H.le
  by_cases hb : (4096 : Int) < (n : Int)
  · go_enter Try.func7, Try.ntmps7
    go_wp2_with (first | (go_at_call 10; refine (bigL _ _ _ _).mono ?_; rintro e w' ⟨rfl, rfl⟩))
    go_ret
    exact ⟨rfl, Below.refl _ _⟩
  go_enter Try.func7, Try.ntmps7
  go_wp2_with (first | (go_at_call 10; refine (bigL _ _ _ _).mono ?_; rintro e w' ⟨rfl, rfl⟩))
  refine (drMedianOf H c).mono ?_
  rintro e w1 ⟨A1, n1, c1, xs, rfl, ⟨hn1, I1⟩, hb1⟩
  have hl1 := Lib.hid I1.len
  go_wp2_with fail
  refine (mdI I1 _).mono ?_
  rintro e w2 ⟨rfl, hb2⟩
  have I2 := I1.below hb2
  have SM : Hid (mdC xs = 0 → (srt xs)[(xs.length - 1) / 2]? = some (mdV xs)) := by
    intro h0
    have hp : 0 < xs.length := by
      rcases Nat.eq_zero_or_pos xs.length with h | h
      · exfalso
        simp [mdC, allIn, List.length_eq_zero_iff.1 h] at h0
      · exact h
    rw [srt_at hp, mdV, if_pos h0]
  go_wp2_with fail
  refine (mdS I2 _).mono ?_
  rintro e w3 ⟨rfl, hb3⟩
  have I3 := I2.below hb3
  obtain ⟨m, hm⟩ : ∃ m, mdV xs = m := ⟨_, rfl⟩
  obtain ⟨cc, hcc⟩ : ∃ cc, mdC xs = cc := ⟨_, rfl⟩
  rw [hm, hcc] at SM ⊢
  clear hm hcc
  go_wp2_with fail
  refine (drIsRising (H.below (by (repeat' (first | (with_reducible exact Below.refl _ _) | (with_reducible assumption) | (with_reducible refine bStep ?_ (by with_reducible assumption)) | (with_reducible refine bAlloc ?_ _) | (with_reducible refine bDrew ?_) | (with_reducible refine bDrewN ?_ _) | (with_reducible refine Below.setCell ?_ ?_ _) | (with_reducible exact Nat.le_refl _) | (simp; done) | (simp; omega))))) c).mono ?_
  rintro e w4 ⟨A2, n2, c2, ys, N, rfl, ⟨hn2, J4, hN0, hN1⟩, hb4⟩
  have I4 := I3.below hb4
  clear I1 I2 I3
  by_cases hc0 : cc = 0
  · subst hc0
    have HM := Lib.hid (SM.out rfl)
    have HL := Lib.hid (med_le HM.out)
    have HG := Lib.hid (med_ge HM.out)
    have HIN := Lib.hid (med_mem HM.out)
    go_wp2_with (first | (go_at_call 50; refine (risI J4 _ _).mono ?_; rintro e w5 ⟨rfl, rfl⟩) | (go_at_call 51; refine (risSW J4 _ _).mono ?_; rintro e w6 ⟨rfl, q6, rfl⟩; have I4 := I4.drewN q6))
    go_loop [10, 11, 12] (fun lo hi i => ∃ k p q : Nat, k ≤ n1 ∧ i = .int .i64 (k : Int) ∧ lo = .int .i64 (p : Int) ∧ hi = .int .i64 (q : Int) ∧ p ≤ k ∧ q ≤ k ∧ Hid (p = cLe m (xs.take k)) ∧ Hid (q = cGe m (xs.take k))) (fun _ _ i => n1 - (intOf i).toNat)
    case atStart => exact ⟨0, 0, 0, Nat.zero_le _, rfl, rfl, rfl, Nat.le_refl _, Nat.le_refl _, rfl, rfl⟩
    case round =>
      obtain ⟨k, p, q, hk, rfl, rfl, rfl, hpk, hqk, HP, HQ⟩ := hrel
      by_cases hlt : k < n1
      · obtain ⟨b, off, y, rfl, hb, hc, HX, hw⟩ := I4.at_ hlt
        have SP := Lib.hid (cLe_step m HX.out)
        have SQ := Lib.hid (cGe_step m HX.out)
        by_cases h1 : y ≤ m <;> by_cases h2 : m ≤ y
        all_goals
          go_wp2
          go_round
          first
            | exact ⟨k + 1, p + 1, q + 1, by omega, by go_num, by go_num, by go_num, by omega, by omega, by rw [SP.out, ← HP.out, if_pos h1]; rfl, by rw [SQ.out, ← HQ.out, if_pos h2]; rfl⟩
            | exact ⟨k + 1, p + 1, q, by omega, by go_num, by go_num, by go_num, by omega, by omega, by rw [SP.out, ← HP.out, if_pos h1]; rfl, by rw [SQ.out, ← HQ.out, if_neg h2]; rfl⟩
            | exact ⟨k + 1, p, q + 1, by omega, by go_num, by go_num, by go_num, by omega, by omega, by rw [SP.out, ← HP.out, if_neg h1]; rfl, by rw [SQ.out, ← HQ.out, if_pos h2]; rfl⟩
            | exact ⟨k + 1, p, q, by omega, by go_num, by go_num, by go_num, by omega, by omega, by rw [SP.out, ← HP.out, if_neg h1]; rfl, by rw [SQ.out, ← HQ.out, if_neg h2]; rfl⟩
          case measure => simp [intOf]; omega
      · obtain rfl : k = n1 := by omega
        have hp : k ≤ 2 * p := by have h := HL.out; rw [HP.out, List.take_of_length_le (by have := hl1.out; omega)]; have := hl1.out; omega
        have hq : k ≤ 2 * q := by have h := HG.out; rw [HQ.out, List.take_of_length_le (by have := hl1.out; omega)]; have := hl1.out; omega
        have hp2 : (k : Int) ≤ 2 * (p : Int) := by omega
        have hq2 : (k : Int) ≤ 2 * (q : Int) := by omega
        go_wp2_with (go_at_call 52; refine (hasL I4 _ HIN.out).mono ?_; rintro e w7 ⟨rfl, rfl⟩)
        go_ret
        exact ⟨by first | rfl | (simp; done), by (repeat' (first | (with_reducible exact Below.refl _ _) | (with_reducible assumption) | (with_reducible refine bStep ?_ (by with_reducible assumption)) | (with_reducible refine bAlloc ?_ _) | (with_reducible refine bDrew ?_) | (with_reducible refine bDrewN ?_ _) | (with_reducible refine Below.setCell ?_ ?_ _) | (with_reducible exact Nat.le_refl _) | (simp; done) | (simp; omega)))⟩
  · have hcb : (cc == 0) = false := by simpa using hc0
    go_wp2_with (first | (go_at_call 50; refine (risI J4 _ _).mono ?_; rintro e w5 ⟨rfl, rfl⟩) | (go_at_call 51; refine (risSW J4 _ _).mono ?_; rintro e w6 ⟨rfl, q6, rfl⟩; have I4 := I4.drewN q6))
    go_ret
    exact ⟨by first | rfl | (simp; done), by (repeat' (first | (with_reducible exact Below.refl _ _) | (with_reducible assumption) | (with_reducible refine bStep ?_ (by with_reducible assumption)) | (with_reducible refine bAlloc ?_ _) | (with_reducible refine bDrew ?_) | (with_reducible refine bDrewN ?_ _) | (with_reducible refine Below.setCell ?_ ?_ _) | (with_reducible exact Nat.le_refl _) | (simp; done) | (simp; omega)))⟩
end Go.Proofs.Ytincelkcbdjcjaa
