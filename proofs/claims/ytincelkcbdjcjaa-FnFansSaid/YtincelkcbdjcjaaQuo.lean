/- Contracts of QuotientBounds, RootBounds, CommonDivisor, IsFan, of the program and of the reference; the walks of the laws on them. -/
import Derived.Test.YtincelkcbdjcjaaLoop
import Derived.Test.YtincelkcbdjcjaaInts
namespace Go.Proofs.Ytincelkcbdjcjaa
open Go.RowKit

theorem isV_zero {a b : Int} (h : qc a b = 0) : isV a = true ∧ isV b = true ∧ ¬ b = 0 := by
  unfold qc at h
  split at h
  · split at h
    · omega
    · rename_i h1 h2; simp at h1; exact ⟨h1.1, h1.2, h2⟩
  · omega
theorem qc_cases (a b : Int) : qc a b = 0 ∨ qc a b = 2 ∨ qc a b = 5 := by
  unfold qc
  split
  · split <;> simp
  · simp

def qbLo (a b : Int) : Int := if qc a b = 0 then flo a b else 0
def qbHi (a b : Int) : Int := if qc a b = 0 then cel a b else 0
def cdvOk (a b : Int) : Bool := isV a && isV b
def cdv (a b : Int) : Int := if cdvOk a b then Int.gcd a b else 0
def cdvC (a b : Int) : Int := if cdvOk a b then 0 else 2
def rbOk (n : Int) : Bool := inB n 0 4000000000000000000
noncomputable def rbLo (n : Int) : Int := if rbOk n then rt n else 0
noncomputable def rbHi (n : Int) : Int := if rbOk n then rtUp n else 0
def rbC (n : Int) : Int := if rbOk n then 0 else 2
def isFanB (n l h : Int) : Bool := inB n 2 1000 && inB h 1 (n - 1) && inB l 1 h && decide (n * n + h * h ≤ 1000)

theorem qbI (a b : Int) (w : World) : Calls Try.prog 45 #[.int .i64 a, .int .i64 b] w fun e w' => e = .returned (.tuple #[.int .i64 (qbLo a b), .int .i64 (qbHi a b), .int .i64 (qc a b)]) ∧ w = w' := by
  rcases qc_cases a b with h | h | h
  · obtain ⟨h1, h2, h3⟩ := isV_zero h
    have h1' := isV_t h1
    go_enter Try.func45, Try.ntmps45
    go_wp2_with (first | (go_at_call 95; refine (qcI _ _ _).mono ?_; rintro e w' ⟨rfl, rfl⟩) | (go_at_call 91; refine (floI _ _ _ (by omega) (by omega) h3).mono ?_; rintro e w' ⟨rfl, rfl⟩) | (go_at_call 92; refine (celI _ _ _ (by omega) (by omega) h3).mono ?_; rintro e w' ⟨rfl, rfl⟩))
    go_ret3
    exact ⟨by first | (simp [qbLo, qbHi, h]; done) | simp [qbLo, qbHi, H.out], rfl⟩
  all_goals
    go_enter Try.func45, Try.ntmps45
    go_wp2_with (first | (go_at_call 95; refine (qcI _ _ _).mono ?_; rintro e w' ⟨rfl, rfl⟩))
    go_ret3
    exact ⟨by first | (simp [qbLo, qbHi, h]; done) | simp [qbLo, qbHi, H.out], rfl⟩

theorem fanS (n l h : Int) (w : World) (_wn : -9223372036854775808 ≤ n) : Calls Try.prog 80 #[.int .i64 n, .int .i64 l, .int .i64 h] w fun e w' => e = .returned (.bool (isFanB n l h)) ∧ w = w' := by
  rcases h1 : inB n 2 1000
  · go_enter Try.func80, Try.ntmps80
    go_wp2_with (first | (go_at_call 62; refine (inS _ _ _ _).mono ?_; rintro e w' ⟨rfl, rfl⟩))
    go_ret
    exact ⟨ret_b (by simp [isFanB, h1]), rfl⟩
  · have b1 := inB_t h1
    rcases h2 : inB h 1 (n - 1)
    · go_enter Try.func80, Try.ntmps80
      go_wp2_with (first | (go_at_call 62; refine (inS _ _ _ _).mono ?_; rintro e w' ⟨rfl, rfl⟩))
      go_ret
      exact ⟨ret_b (by simp [isFanB, h2]), rfl⟩
    · have b2 := inB_t h2
      rcases h3 : inB l 1 h
      · go_enter Try.func80, Try.ntmps80
        go_wp2_with (first | (go_at_call 62; refine (inS _ _ _ _).mono ?_; rintro e w' ⟨rfl, rfl⟩))
        go_ret
        exact ⟨ret_b (by simp [isFanB, h3]), rfl⟩
      · obtain ⟨p, hp⟩ : ∃ p, n * n = p := ⟨_, rfl⟩
        obtain ⟨q, hq⟩ : ∃ q, h * h = q := ⟨_, rfl⟩
        have s1 := sq_bd (r := n) (by omega) (by omega)
        have s2 := sq_bd (r := h) (by omega) (by omega)
        rw [hp] at s1
        rw [hq] at s2
        go_enter Try.func80, Try.ntmps80
        go_wp2_with (first | (go_at_call 62; refine (inS _ _ _ _).mono ?_; rintro e w' ⟨rfl, rfl⟩))
        go_ret
        exact ⟨ret_b (by simp [isFanB, h1, h2, h3, hp, hq]), rfl⟩
theorem fanI (n l h : Int) (w : World) (_wn : -9223372036854775808 ≤ n) : Calls Try.prog 36 #[.int .i64 n, .int .i64 l, .int .i64 h] w fun e w' => e = .returned (.bool (isFanB n l h)) ∧ w = w' := by
  rcases h1 : inB n 2 1000
  · go_enter Try.func36, Try.ntmps36
    go_wp2_with (first | (go_at_call 60; refine (inI _ _ _ _).mono ?_; rintro e w' ⟨rfl, rfl⟩))
    go_ret
    exact ⟨ret_b (by simp [isFanB, h1]), rfl⟩
  · have b1 := inB_t h1
    rcases h2 : inB h 1 (n - 1)
    · go_enter Try.func36, Try.ntmps36
      go_wp2_with (first | (go_at_call 60; refine (inI _ _ _ _).mono ?_; rintro e w' ⟨rfl, rfl⟩))
      go_ret
      exact ⟨ret_b (by simp [isFanB, h2]), rfl⟩
    · have b2 := inB_t h2
      rcases h3 : inB l 1 h
      · go_enter Try.func36, Try.ntmps36
        go_wp2_with (first | (go_at_call 60; refine (inI _ _ _ _).mono ?_; rintro e w' ⟨rfl, rfl⟩))
        go_ret
        exact ⟨ret_b (by simp [isFanB, h3]), rfl⟩
      · obtain ⟨p, hp⟩ : ∃ p, n * n = p := ⟨_, rfl⟩
        obtain ⟨q, hq⟩ : ∃ q, h * h = q := ⟨_, rfl⟩
        have s1 := sq_bd (r := n) (by omega) (by omega)
        have s2 := sq_bd (r := h) (by omega) (by omega)
        rw [hp] at s1
        rw [hq] at s2
        go_enter Try.func36, Try.ntmps36
        go_wp2_with (first | (go_at_call 60; refine (inI _ _ _ _).mono ?_; rintro e w' ⟨rfl, rfl⟩))
        go_ret
        exact ⟨ret_b (by simp [isFanB, h1, h2, h3, hp, hq]), rfl⟩
end Go.Proofs.Ytincelkcbdjcjaa
