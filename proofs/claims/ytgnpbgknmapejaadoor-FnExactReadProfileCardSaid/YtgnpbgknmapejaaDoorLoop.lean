/- Contracts of the loops on numbers: the greatest common divisor, integer square roots. -/
import Derived.Test.YtgnpbgknmapejaaDoorNum
import Derived.Deep.QuietTactic
import Derived.BigQuiet
namespace Go.Proofs.YtgnpbgknmapejaaDoor
open Go.RowKit

theorem tmod_bd (p q : Int) : (p.tmod q).natAbs ≤ p.natAbs := by rw [Int.natAbs_tmod]; exact Nat.mod_le _ _
theorem tmod_lt (p : Int) {q : Int} (h : q ≠ 0) : (p.tmod q).natAbs < q.natAbs := by rw [Int.natAbs_tmod]; exact Nat.mod_lt _ (by omega)

theorem gcdI (a b : Int) (w : World) (ha : -9000000000000000000 ≤ a) (ha' : a ≤ 9000000000000000000) (hb : -9000000000000000000 ≤ b) (hb' : b ≤ 9000000000000000000) :
    Calls Tryd.prog 88 #[.int .i64 a, .int .i64 b] w fun e w' => e = .returned (.int .i64 (Int.gcd a b)) ∧ ∃ n, w' = w.drewN n := by
  go_enter Tryd.func88, Tryd.ntmps88
  go_wp2
  go_loopw [0, 1] (fun x y wr => ∃ p q : Int, x = .int .i64 p ∧ y = .int .i64 q ∧ -9000000000000000000 ≤ p ∧ p ≤ 9000000000000000000 ∧ -9000000000000000000 ≤ q ∧ q ≤ 9000000000000000000 ∧ Hid (Int.gcd p q = Int.gcd a b) ∧ ∃ n, wr = w.drewN n) (fun _ y _ => (intOf y).natAbs)
  case atStart => exact ⟨a, b, rfl, rfl, ha, ha', hb, hb', rfl, 0, rfl⟩
  case round =>
    obtain ⟨p, q, rfl, rfl, h1, h2, h3, h4, HG, n, rfl⟩ := hrel
    by_cases hq : q = 0
    · subst hq
      go_wp2_with (go_at_call 94; refine (absI _ _ (by omega) (by omega)).mono ?_; rintro e w' ⟨rfl, rfl⟩)
      go_ret
      exact ⟨ret_i (by have := HG.out; rw [← this]; simp [iabs]), n, rfl⟩
    · have hne : (q == 0) = false := by simpa using hq
      have t1 := tmod_bd p q
      have t2 := tmod_lt p hq
      have m1 : -9000000000000000000 ≤ p.tmod q := by omega
      have m2 : p.tmod q ≤ 9000000000000000000 := by omega
      have T2 : Hid ((p.tmod q).natAbs < q.natAbs) := t2
      clear t1 t2 hne
      have hne : (q != 0) = true := by simpa using hq
      go_wp2
      go_region
      go_wp2
      go_roundw
      case rel => exact ⟨q, p.tmod q, rfl, rfl, h3, h4, m1, m2, (gcd_step p q).trans HG.out, n + 1, rfl⟩
      case measure => exact T2.out
theorem gcdS (a b : Int) (w : World) (ha : -9000000000000000000 ≤ a) (ha' : a ≤ 9000000000000000000) (hb : -9000000000000000000 ≤ b) (hb' : b ≤ 9000000000000000000) :
    Calls Tryd.prog 92 #[.int .i64 a, .int .i64 b] w fun e w' => e = .returned (.int .i64 (Int.gcd a b)) ∧ ∃ n, w' = w.drewN n := by
  go_enter Tryd.func92, Tryd.ntmps92
  go_wp2_with (go_at_call 73; refine (absS _ _ (by omega) (by omega)).mono ?_; rintro e w' ⟨rfl, rfl⟩)
  go_loopw [0, 1] (fun x y wr => ∃ p q : Nat, x = .int .i64 p ∧ y = .int .i64 q ∧ p ≤ 9000000000000000000 ∧ q ≤ 9000000000000000000 ∧ Hid (Nat.gcd p q = Int.gcd a b) ∧ ∃ n, wr = w.drewN n) (fun _ y _ => (intOf y).natAbs)
  case atStart => exact ⟨a.natAbs, b.natAbs, rfl, rfl, by omega, by omega, rfl, 0, rfl⟩
  case round =>
    obtain ⟨p, q, rfl, rfl, h2, h4, HG, n, rfl⟩ := hrel
    by_cases hq : q = 0
    · subst hq
      go_wp2
      go_ret
      exact ⟨ret_i (by have := HG.out; rw [← this]; simp), n, rfl⟩
    · have hp : 0 < q := by omega
      have hz : ¬ (q : Int) = 0 := by omega
      have t2 : p % q < q := Nat.mod_lt _ hp
      clear hq
      go_wp2
      go_region
      go_wp2
      go_roundw
      case rel => exact ⟨q, p % q, rfl, rfl, by omega, by omega, (by rw [← HG.out, Nat.gcd_comm p q, Nat.gcd_rec q p, Nat.gcd_comm]; exact rfl), n + 1, rfl⟩
      case measure => simp [intOf]; omega
end Go.Proofs.YtgnpbgknmapejaaDoor
