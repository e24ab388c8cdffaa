/- Contracts of QuotientBounds, RootBounds, CommonDivisor, IsFan, of the program and of the reference; the walks of the laws on them. -/
import Derived.Test.YtmgadhddmpgklaaLoop
import Derived.Test.YtmgadhddmpgklaaInts
namespace Go.Proofs.Ytmgadhddmpgklaa
open Go.RowKit

theorem isV_zero {a b : Int} (h : qc a b = 0) : isV a = true ∧ isV b = true ∧ ¬ b = 0 := by
  unfold qc at h
  split at h
  · split at h
    · omega
    · rename_i h1 h2; simp at h1; exact ⟨h1.1, h1.2, h2⟩
  · omega
theorem qc_cases (a b : Int) : qc a b = 0 ∨ qc a b = 2 ∨ qc a b = 5 := by
  unfold qc
  split
  · split <;> simp
  · simp

def qbLo (a b : Int) : Int := if qc a b = 0 then flo a b else 0
def qbHi (a b : Int) : Int := if qc a b = 0 then cel a b else 0
def cdvOk (a b : Int) : Bool := isV a && isV b
def cdv (a b : Int) : Int := if cdvOk a b then Int.gcd a b else 0
def cdvC (a b : Int) : Int := if cdvOk a b then 0 else 2
def rbOk (n : Int) : Bool := inB n 0 4000000000000000000
noncomputable def rbLo (n : Int) : Int := if rbOk n then rt n else 0
noncomputable def rbHi (n : Int) : Int := if rbOk n then rtUp n else 0
def rbC (n : Int) : Int := if rbOk n then 0 else 2
def isFanB (n l h : Int) : Bool := inB n 2 1000 && inB h 1 (n - 1) && inB l 1 h && decide (n * n + h * h ≤ 1000)

theorem qbS (a b : Int) (w : World) : Calls Try.prog 39 #[.int .i64 a, .int .i64 b] w fun e w' => e = .returned (.tuple #[.int .i64 (qbLo a b), .int .i64 (qbHi a b), .int .i64 (qc a b)]) ∧ w = w' := by
  rcases qc_cases a b with h | h | h
  · obtain ⟨h1, h2, h3⟩ := isV_zero h
    have h1' := isV_t h1
    go_enter Try.func39, Try.ntmps39
    go_wp2_with (first | (go_at_call 54; refine (qcS _ _ _).mono ?_; rintro e w' ⟨rfl, rfl⟩) | (go_at_call 55; refine (floS _ _ _ (by omega) (by omega) h3).mono ?_; rintro e w' ⟨rfl, rfl⟩) | (go_at_call 56; refine (celS _ _ _ (by omega) (by omega) h3).mono ?_; rintro e w' ⟨rfl, rfl⟩))
    go_ret3
    exact ⟨by first | (simp [qbLo, qbHi, h]; done) | simp [qbLo, qbHi, H.out], rfl⟩
  all_goals
    go_enter Try.func39, Try.ntmps39
    go_wp2_with (first | (go_at_call 54; refine (qcS _ _ _).mono ?_; rintro e w' ⟨rfl, rfl⟩))
    go_ret3
    exact ⟨by first | (simp [qbLo, qbHi, h]; done) | simp [qbLo, qbHi, H.out], rfl⟩
theorem qbI (a b : Int) (w : World) : Calls Try.prog 40 #[.int .i64 a, .int .i64 b] w fun e w' => e = .returned (.tuple #[.int .i64 (qbLo a b), .int .i64 (qbHi a b), .int .i64 (qc a b)]) ∧ w = w' := by
  rcases qc_cases a b with h | h | h
  · obtain ⟨h1, h2, h3⟩ := isV_zero h
    have h1' := isV_t h1
    go_enter Try.func40, Try.ntmps40
    go_wp2_with (first | (go_at_call 57; refine (qcI _ _ _).mono ?_; rintro e w' ⟨rfl, rfl⟩) | (go_at_call 58; refine (floI _ _ _ (by omega) (by omega) h3).mono ?_; rintro e w' ⟨rfl, rfl⟩) | (go_at_call 59; refine (celI _ _ _ (by omega) (by omega) h3).mono ?_; rintro e w' ⟨rfl, rfl⟩))
    go_ret3
    exact ⟨by first | (simp [qbLo, qbHi, h]; done) | simp [qbLo, qbHi, H.out], rfl⟩
  all_goals
    go_enter Try.func40, Try.ntmps40
    go_wp2_with (first | (go_at_call 57; refine (qcI _ _ _).mono ?_; rintro e w' ⟨rfl, rfl⟩))
    go_ret3
    exact ⟨by first | (simp [qbLo, qbHi, h]; done) | simp [qbLo, qbHi, H.out], rfl⟩

theorem cdS (a b : Int) (w : World) : Calls Try.prog 28 #[.int .i64 a, .int .i64 b] w fun e w' => e = .returned (.tuple #[.int .i64 (cdv a b), .int .i64 (cdvC a b)]) ∧ ∃ n, w' = w.drewN n := by
  rcases ha : isV a
  · go_enter Try.func28, Try.ntmps28
    go_wp2_with (first | (go_at_call 45; refine (isS _ _).mono ?_; rintro e w' ⟨rfl, rfl⟩))
    go_ret2
    exact ⟨by simp [cdv, cdvC, cdvOk, ha], 0, rfl⟩
  · rcases hb : isV b
    · go_enter Try.func28, Try.ntmps28
      go_wp2_with (first | (go_at_call 45; refine (isS _ _).mono ?_; rintro e w' ⟨rfl, rfl⟩))
      go_ret2
      exact ⟨by simp [cdv, cdvC, cdvOk, hb], 0, rfl⟩
    · have h1 := isV_t ha
      have h2 := isV_t hb
      go_enter Try.func28, Try.ntmps28
      go_wp2_with (first | (go_at_call 45; refine (isS _ _).mono ?_; rintro e w' ⟨rfl, rfl⟩) | (go_at_call 48; refine (gcdS _ _ _ (by omega) (by omega) (by omega) (by omega)).mono ?_; rintro e w' ⟨rfl, n, rfl⟩))
      go_ret2
      exact ⟨by simp [cdv, cdvC, cdvOk, ha, hb], _, rfl⟩
theorem cdI (a b : Int) (w : World) : Calls Try.prog 29 #[.int .i64 a, .int .i64 b] w fun e w' => e = .returned (.tuple #[.int .i64 (cdv a b), .int .i64 (cdvC a b)]) ∧ ∃ n, w' = w.drewN n := by
  rcases ha : isV a
  · go_enter Try.func29, Try.ntmps29
    go_wp2_with (first | (go_at_call 46; refine (isI _ _).mono ?_; rintro e w' ⟨rfl, rfl⟩))
    go_ret2
    exact ⟨by simp [cdv, cdvC, cdvOk, ha], 0, rfl⟩
  · rcases hb : isV b
    · go_enter Try.func29, Try.ntmps29
      go_wp2_with (first | (go_at_call 46; refine (isI _ _).mono ?_; rintro e w' ⟨rfl, rfl⟩))
      go_ret2
      exact ⟨by simp [cdv, cdvC, cdvOk, hb], 0, rfl⟩
    · have h1 := isV_t ha
      have h2 := isV_t hb
      go_enter Try.func29, Try.ntmps29
      go_wp2_with (first | (go_at_call 46; refine (isI _ _).mono ?_; rintro e w' ⟨rfl, rfl⟩) | (go_at_call 49; refine (gcdI _ _ _ (by omega) (by omega) (by omega) (by omega)).mono ?_; rintro e w' ⟨rfl, n, rfl⟩))
      go_ret2
      exact ⟨by simp [cdv, cdvC, cdvOk, ha, hb], _, rfl⟩
theorem rbS (n : Int) (w : World) : Calls Try.prog 41 #[.int .i64 n] w fun e w' => e = .returned (.tuple #[.int .i64 (rbLo n), .int .i64 (rbHi n), .int .i64 (rbC n)]) ∧ w = w' := by
  rcases hn : inB n 0 4000000000000000000
  · go_enter Try.func41, Try.ntmps41
    go_wp2_with (first | (go_at_call 43; refine (inS _ _ _ _).mono ?_; rintro e w' ⟨rfl, rfl⟩))
    go_ret3
    exact ⟨by simp [rbLo, rbHi, rbC, rbOk, hn], rfl⟩
  · obtain ⟨h1, h2⟩ := inB_t hn
    go_enter Try.func41, Try.ntmps41
    go_wp2_with (first | (go_at_call 43; refine (inS _ _ _ _).mono ?_; rintro e w' ⟨rfl, rfl⟩) | (go_at_call 60; refine (rootS _ _ h1 h2).mono ?_; rintro e w' ⟨rfl, rfl⟩) | (go_at_call 61; refine (rootUpS _ _ h1 h2).mono ?_; rintro e w' ⟨rfl, rfl⟩))
    go_ret3
    exact ⟨by simp [rbLo, rbHi, rbC, rbOk, hn], rfl⟩
theorem rbI (n : Int) (w : World) : Calls Try.prog 42 #[.int .i64 n] w fun e w' => e = .returned (.tuple #[.int .i64 (rbLo n), .int .i64 (rbHi n), .int .i64 (rbC n)]) ∧ w = w' := by
  rcases hn : inB n 0 4000000000000000000
  · go_enter Try.func42, Try.ntmps42
    go_wp2_with (first | (go_at_call 44; refine (inI _ _ _ _).mono ?_; rintro e w' ⟨rfl, rfl⟩))
    go_ret3
    exact ⟨by simp [rbLo, rbHi, rbC, rbOk, hn], rfl⟩
  · obtain ⟨h1, h2⟩ := inB_t hn
    go_enter Try.func42, Try.ntmps42
    go_wp2_with (first | (go_at_call 44; refine (inI _ _ _ _).mono ?_; rintro e w' ⟨rfl, rfl⟩) | (go_at_call 62; refine (rootI _ _ h1 h2).mono ?_; rintro e w' ⟨rfl, rfl⟩) | (go_at_call 63; refine (rootUpI _ _ h1 h2).mono ?_; rintro e w' ⟨rfl, rfl⟩))
    go_ret3
    exact ⟨by simp [rbLo, rbHi, rbC, rbOk, hn], rfl⟩
theorem fanS (n l h : Int) (w : World) (_wn : -9223372036854775808 ≤ n) : Calls Try.prog 15 #[.int .i64 n, .int .i64 l, .int .i64 h] w fun e w' => e = .returned (.bool (isFanB n l h)) ∧ w = w' := by
  rcases h1 : inB n 2 1000
  · go_enter Try.func15, Try.ntmps15
    go_wp2_with (first | (go_at_call 43; refine (inS _ _ _ _).mono ?_; rintro e w' ⟨rfl, rfl⟩))
    go_ret
    exact ⟨ret_b (by simp [isFanB, h1]), rfl⟩
  · have b1 := inB_t h1
    rcases h2 : inB h 1 (n - 1)
    · go_enter Try.func15, Try.ntmps15
      go_wp2_with (first | (go_at_call 43; refine (inS _ _ _ _).mono ?_; rintro e w' ⟨rfl, rfl⟩))
      go_ret
      exact ⟨ret_b (by simp [isFanB, h2]), rfl⟩
    · have b2 := inB_t h2
      rcases h3 : inB l 1 h
      · go_enter Try.func15, Try.ntmps15
        go_wp2_with (first | (go_at_call 43; refine (inS _ _ _ _).mono ?_; rintro e w' ⟨rfl, rfl⟩))
        go_ret
        exact ⟨ret_b (by simp [isFanB, h3]), rfl⟩
      · obtain ⟨p, hp⟩ : ∃ p, n * n = p := ⟨_, rfl⟩
        obtain ⟨q, hq⟩ : ∃ q, h * h = q := ⟨_, rfl⟩
        have s1 := sq_bd (r := n) (by omega) (by omega)
        have s2 := sq_bd (r := h) (by omega) (by omega)
        rw [hp] at s1
        rw [hq] at s2
        go_enter Try.func15, Try.ntmps15
        go_wp2_with (first | (go_at_call 43; refine (inS _ _ _ _).mono ?_; rintro e w' ⟨rfl, rfl⟩))
        go_ret
        exact ⟨ret_b (by simp [isFanB, h1, h2, h3, hp, hq]), rfl⟩
theorem fanI (n l h : Int) (w : World) (_wn : -9223372036854775808 ≤ n) : Calls Try.prog 16 #[.int .i64 n, .int .i64 l, .int .i64 h] w fun e w' => e = .returned (.bool (isFanB n l h)) ∧ w = w' := by
  rcases h1 : inB n 2 1000
  · go_enter Try.func16, Try.ntmps16
    go_wp2_with (first | (go_at_call 44; refine (inI _ _ _ _).mono ?_; rintro e w' ⟨rfl, rfl⟩))
    go_ret
    exact ⟨ret_b (by simp [isFanB, h1]), rfl⟩
  · have b1 := inB_t h1
    rcases h2 : inB h 1 (n - 1)
    · go_enter Try.func16, Try.ntmps16
      go_wp2_with (first | (go_at_call 44; refine (inI _ _ _ _).mono ?_; rintro e w' ⟨rfl, rfl⟩))
      go_ret
      exact ⟨ret_b (by simp [isFanB, h2]), rfl⟩
    · have b2 := inB_t h2
      rcases h3 : inB l 1 h
      · go_enter Try.func16, Try.ntmps16
        go_wp2_with (first | (go_at_call 44; refine (inI _ _ _ _).mono ?_; rintro e w' ⟨rfl, rfl⟩))
        go_ret
        exact ⟨ret_b (by simp [isFanB, h3]), rfl⟩
      · obtain ⟨p, hp⟩ : ∃ p, n * n = p := ⟨_, rfl⟩
        obtain ⟨q, hq⟩ : ∃ q, h * h = q := ⟨_, rfl⟩
        have s1 := sq_bd (r := n) (by omega) (by omega)
        have s2 := sq_bd (r := h) (by omega) (by omega)
        rw [hp] at s1
        rw [hq] at s2
        go_enter Try.func16, Try.ntmps16
        go_wp2_with (first | (go_at_call 44; refine (inI _ _ _ _).mono ?_; rintro e w' ⟨rfl, rfl⟩))
        go_ret
        exact ⟨ret_b (by simp [isFanB, h1, h2, h3, hp, hq]), rfl⟩
end Go.Proofs.Ytmgadhddmpgklaa
