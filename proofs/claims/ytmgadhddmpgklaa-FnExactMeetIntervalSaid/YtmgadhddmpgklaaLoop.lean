/- Contracts of the loops on numbers: the greatest common divisor, integer square roots. -/
import Derived.Test.YtmgadhddmpgklaaNum
import Derived.Deep.QuietTactic
import Derived.BigQuiet
namespace Go.Proofs.Ytmgadhddmpgklaa
open Go.RowKit

theorem tmod_bd (p q : Int) : (p.tmod q).natAbs ≤ p.natAbs := by rw [Int.natAbs_tmod]; exact Nat.mod_le _ _
theorem tmod_lt (p : Int) {q : Int} (h : q ≠ 0) : (p.tmod q).natAbs < q.natAbs := by rw [Int.natAbs_tmod]; exact Nat.mod_lt _ (by omega)

theorem gcdI (a b : Int) (w : World) (ha : -9000000000000000000 ≤ a) (ha' : a ≤ 9000000000000000000) (hb : -9000000000000000000 ≤ b) (hb' : b ≤ 9000000000000000000) :
    Calls Try.prog 49 #[.int .i64 a, .int .i64 b] w fun e w' => e = .returned (.int .i64 (Int.gcd a b)) ∧ ∃ n, w' = w.drewN n := by
  go_enter Try.func49, Try.ntmps49
  go_wp2
  go_loopw [0, 1] (fun x y wr => ∃ p q : Int, x = .int .i64 p ∧ y = .int .i64 q ∧ -9000000000000000000 ≤ p ∧ p ≤ 9000000000000000000 ∧ -9000000000000000000 ≤ q ∧ q ≤ 9000000000000000000 ∧ Hid (Int.gcd p q = Int.gcd a b) ∧ ∃ n, wr = w.drewN n) (fun _ y _ => (intOf y).natAbs)
  case atStart => exact ⟨a, b, rfl, rfl, ha, ha', hb, hb', rfl, 0, rfl⟩
  case round =>
    obtain ⟨p, q, rfl, rfl, h1, h2, h3, h4, HG, n, rfl⟩ := hrel
    by_cases hq : q = 0
    · subst hq
      go_wp2_with (go_at_call 65; refine (absI _ _ (by omega) (by omega)).mono ?_; rintro e w' ⟨rfl, rfl⟩)
      go_ret
      exact ⟨ret_i (by have := HG.out; rw [← this]; simp [iabs]), n, rfl⟩
    · have hne : (q == 0) = false := by simpa using hq
      have t1 := tmod_bd p q
      have t2 := tmod_lt p hq
      have m1 : -9000000000000000000 ≤ p.tmod q := by omega
      have m2 : p.tmod q ≤ 9000000000000000000 := by omega
      have T2 : Hid ((p.tmod q).natAbs < q.natAbs) := t2
      clear t1 t2 hne
      have hne : (q != 0) = true := by simpa using hq
      go_wp2
      go_region
      go_wp2
      go_roundw
      case rel => exact ⟨q, p.tmod q, rfl, rfl, h3, h4, m1, m2, (gcd_step p q).trans HG.out, n + 1, rfl⟩
      case measure => exact T2.out
theorem gcdS (a b : Int) (w : World) (ha : -9000000000000000000 ≤ a) (ha' : a ≤ 9000000000000000000) (hb : -9000000000000000000 ≤ b) (hb' : b ≤ 9000000000000000000) :
    Calls Try.prog 48 #[.int .i64 a, .int .i64 b] w fun e w' => e = .returned (.int .i64 (Int.gcd a b)) ∧ ∃ n, w' = w.drewN n := by
  go_enter Try.func48, Try.ntmps48
  go_wp2_with (go_at_call 64; refine (absS _ _ (by omega) (by omega)).mono ?_; rintro e w' ⟨rfl, rfl⟩)
  go_loopw [0, 1] (fun x y wr => ∃ p q : Nat, x = .int .i64 p ∧ y = .int .i64 q ∧ p ≤ 9000000000000000000 ∧ q ≤ 9000000000000000000 ∧ Hid (Nat.gcd p q = Int.gcd a b) ∧ ∃ n, wr = w.drewN n) (fun _ y _ => (intOf y).natAbs)
  case atStart => exact ⟨a.natAbs, b.natAbs, rfl, rfl, by omega, by omega, rfl, 0, rfl⟩
  case round =>
    obtain ⟨p, q, rfl, rfl, h2, h4, HG, n, rfl⟩ := hrel
    by_cases hq : q = 0
    · subst hq
      go_wp2
      go_ret
      exact ⟨ret_i (by have := HG.out; rw [← this]; simp), n, rfl⟩
    · have hp : 0 < q := by omega
      have hz : ¬ (q : Int) = 0 := by omega
      have t2 : p % q < q := Nat.mod_lt _ hp
      clear hq
      go_wp2
      go_region
      go_wp2
      go_roundw
      case rel => exact ⟨q, p % q, rfl, rfl, by omega, by omega, (by rw [← HG.out, Nat.gcd_comm p q, Nat.gcd_rec q p, Nat.gcd_comm]; exact rfl), n + 1, rfl⟩
      case measure => simp [intOf]; omega
theorem rootI (n : Int) (w : World) (h0 : 0 ≤ n) (h1 : n ≤ 4000000000000000000) : Calls Try.prog 62 #[.int .i64 n] w fun e w' => e = .returned (.int .i64 (rt n)) ∧ w = w' := by
  go_enter Try.func62, Try.ntmps62
  go_wp2
  go_loop [3, 4] (fun x y => ∃ p q : Int, x = .int .i64 p ∧ y = .int .i64 q ∧ 0 ≤ p ∧ p ≤ q ∧ q ≤ 2000000000 ∧ p * p ≤ n ∧ n < (q + 1) * (q + 1)) (fun x y => (intOf y - intOf x).toNat)
  case atStart => exact ⟨0, 2000000000, rfl, rfl, by omega, by omega, by omega, by omega, by omega⟩
  case round =>
    obtain ⟨p, q, rfl, rfl, a0, a1, a2, a3, a4⟩ := hrel
    by_cases hpq : p < q
    · obtain ⟨m, hm⟩ : ∃ m, (p + q + 1) / 2 = m := ⟨_, rfl⟩
      have m1 : p < m := by omega
      have m2 : m ≤ q := by omega
      have hs := sq_bd (r := m) (by omega) (by omega)
      obtain ⟨s, hs'⟩ : ∃ s, m * m = s := ⟨_, rfl⟩
      rw [hs'] at hs
      obtain ⟨s1, s2⟩ := hs
      have HS : Hid (m * m = s) := hs'
      have A3 : Hid (p * p ≤ n) := a3
      have A4 : Hid (n < (q + 1) * (q + 1)) := a4
      clear a3 a4
      by_cases hc : s ≤ n
      · go_wp2
        go_round
        case rel => exact ⟨m, q, by rw [hm], rfl, by omega, by omega, by omega, by rw [HS.out]; exact hc, A4.out⟩
        case measure => simp [intOf]; omega
      · go_wp2
        go_round
        case rel => exact ⟨p, m - 1, rfl, by first | rfl | rw [hm], by omega, by omega, by omega, A3.out, by rw [Int.sub_add_cancel, HS.out]; omega⟩
        case measure => simp [intOf]; omega
    · have : p = q := by omega
      subst this
      have A3 : Hid (p * p ≤ n) := a3
      have A4 : Hid (n < (p + 1) * (p + 1)) := a4
      clear a3 a4
      go_wp2
      go_ret
      exact ⟨ret_i (rt_of ⟨a0, A3.out, A4.out⟩), rfl⟩
theorem rootS (n : Int) (w : World) (h0 : 0 ≤ n) (h1 : n ≤ 4000000000000000000) : Calls Try.prog 60 #[.int .i64 n] w fun e w' => e = .returned (.int .i64 (rt n)) ∧ w = w' := by
  go_enter Try.func60, Try.ntmps60
  go_wp2
  go_loop [3, 4] (fun x y => ∃ p q : Int, x = .int .i64 p ∧ y = .int .i64 q ∧ 0 ≤ p ∧ p < q ∧ q ≤ 2000000001 ∧ p * p ≤ n ∧ n < q * q) (fun x y => (intOf y - intOf x).toNat)
  case atStart => exact ⟨0, 2000000001, rfl, rfl, by omega, by omega, by omega, by omega, by omega⟩
  case round =>
    obtain ⟨p, q, rfl, rfl, a0, a1, a2, a3, a4⟩ := hrel
    by_cases hpq : q - p > 1
    · obtain ⟨m, hm⟩ : ∃ m, (p + q) / 2 = m := ⟨_, rfl⟩
      have m1 : p < m := by omega
      have m2 : m < q := by omega
      have hs := sq_bd (r := m) (by omega) (by omega)
      obtain ⟨s, hs'⟩ : ∃ s, m * m = s := ⟨_, rfl⟩
      rw [hs'] at hs
      obtain ⟨s1, s2⟩ := hs
      have HS : Hid (m * m = s) := hs'
      have A3 : Hid (p * p ≤ n) := a3
      have A4 : Hid (n < q * q) := a4
      clear a3 a4
      by_cases hc : s ≤ n
      · go_wp2
        go_round
        case rel => exact ⟨m, q, by rw [hm], rfl, by omega, by omega, by omega, by rw [HS.out]; exact hc, A4.out⟩
        case measure => simp [intOf]; omega
      · go_wp2
        go_round
        case rel => exact ⟨p, m, rfl, by rw [hm], by omega, by omega, by omega, A3.out, by rw [HS.out]; omega⟩
        case measure => simp [intOf]; omega
    · have : q = p + 1 := by omega
      subst this
      have A3 : Hid (p * p ≤ n) := a3
      have A4 : Hid (n < (p + 1) * (p + 1)) := a4
      clear a3 a4
      go_wp2
      go_ret
      exact ⟨ret_i (rt_of ⟨a0, A3.out, A4.out⟩), rfl⟩
theorem rootUpS (n : Int) (w : World) (h0 : 0 ≤ n) (h1 : n ≤ 4000000000000000000) : Calls Try.prog 61 #[.int .i64 n] w fun e w' => e = .returned (.int .i64 (rtUp n)) ∧ w = w' := by
  obtain ⟨r0, r1, r2⟩ := rt_spec h0 h1
  obtain ⟨s, hs⟩ : ∃ s, rt n * rt n = s := ⟨_, rfl⟩
  have r3 := rt_le h0 h1
  rw [hs] at r1
  have hs2 := sq_bd r0 (by omega)
  rw [hs] at hs2
  have HS : Hid (rt n * rt n = s) := hs
  obtain ⟨q1, q2⟩ := hs2
  clear r2
  by_cases hc : s < n
  · go_enter Try.func61, Try.ntmps61
    go_wp2_with (go_at_call 60; refine (rootS _ _ h0 h1).mono ?_; rintro e w' ⟨rfl, rfl⟩)
    go_ret
    exact ⟨ret_i (by unfold rtUp; rw [HS.out, if_pos hc]), rfl⟩
  · go_enter Try.func61, Try.ntmps61
    go_wp2_with (go_at_call 60; refine (rootS _ _ h0 h1).mono ?_; rintro e w' ⟨rfl, rfl⟩)
    go_ret
    exact ⟨ret_i (by unfold rtUp; rw [HS.out, if_neg (by omega)]), rfl⟩
theorem rootUpI (n : Int) (w : World) (h0 : 0 ≤ n) (h1 : n ≤ 4000000000000000000) : Calls Try.prog 63 #[.int .i64 n] w fun e w' => e = .returned (.int .i64 (rtUp n)) ∧ w = w' := by
  obtain ⟨r0, r1, r2⟩ := rt_spec h0 h1
  obtain ⟨s, hs⟩ : ∃ s, rt n * rt n = s := ⟨_, rfl⟩
  have r3 := rt_le h0 h1
  rw [hs] at r1
  have hs2 := sq_bd r0 (by omega)
  rw [hs] at hs2
  have HS : Hid (rt n * rt n = s) := hs
  obtain ⟨q1, q2⟩ := hs2
  clear r2
  by_cases hc : s < n
  · go_enter Try.func63, Try.ntmps63
    go_wp2_with (go_at_call 62; refine (rootI _ _ h0 h1).mono ?_; rintro e w' ⟨rfl, rfl⟩)
    go_ret
    exact ⟨ret_i (by unfold rtUp; rw [HS.out, if_pos hc]), rfl⟩
  · go_enter Try.func63, Try.ntmps63
    go_wp2_with (go_at_call 62; refine (rootI _ _ h0 h1).mono ?_; rintro e w' ⟨rfl, rfl⟩)
    go_ret
    exact ⟨ret_i (by unfold rtUp; rw [HS.out, if_neg (by omega)]), rfl⟩
end Go.Proofs.Ytmgadhddmpgklaa
