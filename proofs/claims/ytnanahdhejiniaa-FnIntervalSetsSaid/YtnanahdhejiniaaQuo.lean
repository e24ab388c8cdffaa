/- Contracts of QuotientBounds, RootBounds, CommonDivisor, IsFan, of the program and of the reference; the walks of the laws on them. -/
import Derived.Test.YtnanahdhejiniaaLoop
import Derived.Test.YtnanahdhejiniaaInts
namespace Go.Proofs.Ytnanahdhejiniaa
open Go.RowKit

theorem isV_zero {a b : Int} (h : qc a b = 0) : isV a = true ∧ isV b = true ∧ ¬ b = 0 := by
  unfold qc at h
  split at h
  · split at h
    · omega
    · rename_i h1 h2; simp at h1; exact ⟨h1.1, h1.2, h2⟩
  · omega
theorem qc_cases (a b : Int) : qc a b = 0 ∨ qc a b = 2 ∨ qc a b = 5 := by
  unfold qc
  split
  · split <;> simp
  · simp

def qbLo (a b : Int) : Int := if qc a b = 0 then flo a b else 0
def qbHi (a b : Int) : Int := if qc a b = 0 then cel a b else 0
def cdvOk (a b : Int) : Bool := isV a && isV b
def cdv (a b : Int) : Int := if cdvOk a b then Int.gcd a b else 0
def cdvC (a b : Int) : Int := if cdvOk a b then 0 else 2
def rbOk (n : Int) : Bool := inB n 0 4000000000000000000
noncomputable def rbLo (n : Int) : Int := if rbOk n then rt n else 0
noncomputable def rbHi (n : Int) : Int := if rbOk n then rtUp n else 0
def rbC (n : Int) : Int := if rbOk n then 0 else 2
def isFanB (n l h : Int) : Bool := inB n 2 1000 && inB h 1 (n - 1) && inB l 1 h && decide (n * n + h * h ≤ 1000)

theorem qbS (a b : Int) (w : World) : Calls Try.prog 31 #[.int .i64 a, .int .i64 b] w fun e w' => e = .returned (.tuple #[.int .i64 (qbLo a b), .int .i64 (qbHi a b), .int .i64 (qc a b)]) ∧ w = w' := by
  rcases qc_cases a b with h | h | h
  · obtain ⟨h1, h2, h3⟩ := isV_zero h
    have h1' := isV_t h1
    go_enter Try.func31, Try.ntmps31
    go_wp2_with (first | (go_at_call 112; refine (qcS _ _ _).mono ?_; rintro e w' ⟨rfl, rfl⟩) | (go_at_call 113; refine (floS _ _ _ (by omega) (by omega) h3).mono ?_; rintro e w' ⟨rfl, rfl⟩) | (go_at_call 114; refine (celS _ _ _ (by omega) (by omega) h3).mono ?_; rintro e w' ⟨rfl, rfl⟩))
    go_ret3
    exact ⟨by first | (simp [qbLo, qbHi, h]; done) | simp [qbLo, qbHi, H.out], rfl⟩
  all_goals
    go_enter Try.func31, Try.ntmps31
    go_wp2_with (first | (go_at_call 112; refine (qcS _ _ _).mono ?_; rintro e w' ⟨rfl, rfl⟩))
    go_ret3
    exact ⟨by first | (simp [qbLo, qbHi, h]; done) | simp [qbLo, qbHi, H.out], rfl⟩
theorem qbI (a b : Int) (w : World) : Calls Try.prog 30 #[.int .i64 a, .int .i64 b] w fun e w' => e = .returned (.tuple #[.int .i64 (qbLo a b), .int .i64 (qbHi a b), .int .i64 (qc a b)]) ∧ w = w' := by
  rcases qc_cases a b with h | h | h
  · obtain ⟨h1, h2, h3⟩ := isV_zero h
    have h1' := isV_t h1
    go_enter Try.func30, Try.ntmps30
    go_wp2_with (first | (go_at_call 109; refine (qcI _ _ _).mono ?_; rintro e w' ⟨rfl, rfl⟩) | (go_at_call 110; refine (floI _ _ _ (by omega) (by omega) h3).mono ?_; rintro e w' ⟨rfl, rfl⟩) | (go_at_call 111; refine (celI _ _ _ (by omega) (by omega) h3).mono ?_; rintro e w' ⟨rfl, rfl⟩))
    go_ret3
    exact ⟨by first | (simp [qbLo, qbHi, h]; done) | simp [qbLo, qbHi, H.out], rfl⟩
  all_goals
    go_enter Try.func30, Try.ntmps30
    go_wp2_with (first | (go_at_call 109; refine (qcI _ _ _).mono ?_; rintro e w' ⟨rfl, rfl⟩))
    go_ret3
    exact ⟨by first | (simp [qbLo, qbHi, h]; done) | simp [qbLo, qbHi, H.out], rfl⟩

theorem cdS (a b : Int) (w : World) : Calls Try.prog 18 #[.int .i64 a, .int .i64 b] w fun e w' => e = .returned (.tuple #[.int .i64 (cdv a b), .int .i64 (cdvC a b)]) ∧ ∃ n, w' = w.drewN n := by
  rcases ha : isV a
  · go_enter Try.func18, Try.ntmps18
    go_wp2_with (first | (go_at_call 102; refine (isS _ _).mono ?_; rintro e w' ⟨rfl, rfl⟩))
    go_ret2
    exact ⟨by simp [cdv, cdvC, cdvOk, ha], 0, rfl⟩
  · rcases hb : isV b
    · go_enter Try.func18, Try.ntmps18
      go_wp2_with (first | (go_at_call 102; refine (isS _ _).mono ?_; rintro e w' ⟨rfl, rfl⟩))
      go_ret2
      exact ⟨by simp [cdv, cdvC, cdvOk, hb], 0, rfl⟩
    · have h1 := isV_t ha
      have h2 := isV_t hb
      go_enter Try.func18, Try.ntmps18
      go_wp2_with (first | (go_at_call 102; refine (isS _ _).mono ?_; rintro e w' ⟨rfl, rfl⟩) | (go_at_call 103; refine (gcdS _ _ _ (by omega) (by omega) (by omega) (by omega)).mono ?_; rintro e w' ⟨rfl, n, rfl⟩))
      go_ret2
      exact ⟨by simp [cdv, cdvC, cdvOk, ha, hb], _, rfl⟩
theorem cdI (a b : Int) (w : World) : Calls Try.prog 17 #[.int .i64 a, .int .i64 b] w fun e w' => e = .returned (.tuple #[.int .i64 (cdv a b), .int .i64 (cdvC a b)]) ∧ ∃ n, w' = w.drewN n := by
  rcases ha : isV a
  · go_enter Try.func17, Try.ntmps17
    go_wp2_with (first | (go_at_call 100; refine (isI _ _).mono ?_; rintro e w' ⟨rfl, rfl⟩))
    go_ret2
    exact ⟨by simp [cdv, cdvC, cdvOk, ha], 0, rfl⟩
  · rcases hb : isV b
    · go_enter Try.func17, Try.ntmps17
      go_wp2_with (first | (go_at_call 100; refine (isI _ _).mono ?_; rintro e w' ⟨rfl, rfl⟩))
      go_ret2
      exact ⟨by simp [cdv, cdvC, cdvOk, hb], 0, rfl⟩
    · have h1 := isV_t ha
      have h2 := isV_t hb
      go_enter Try.func17, Try.ntmps17
      go_wp2_with (first | (go_at_call 100; refine (isI _ _).mono ?_; rintro e w' ⟨rfl, rfl⟩) | (go_at_call 101; refine (gcdI _ _ _ (by omega) (by omega) (by omega) (by omega)).mono ?_; rintro e w' ⟨rfl, n, rfl⟩))
      go_ret2
      exact ⟨by simp [cdv, cdvC, cdvOk, ha, hb], _, rfl⟩
theorem fanS (n l h : Int) (w : World) (_wn : -9223372036854775808 ≤ n) : Calls Try.prog 139 #[.int .i64 n, .int .i64 l, .int .i64 h] w fun e w' => e = .returned (.bool (isFanB n l h)) ∧ w = w' := by
  rcases h1 : inB n 2 1000
  · go_enter Try.func139, Try.ntmps139
    go_wp2_with (first | (go_at_call 108; refine (inS _ _ _ _).mono ?_; rintro e w' ⟨rfl, rfl⟩))
    go_ret
    exact ⟨ret_b (by simp [isFanB, h1]), rfl⟩
  · have b1 := inB_t h1
    rcases h2 : inB h 1 (n - 1)
    · go_enter Try.func139, Try.ntmps139
      go_wp2_with (first | (go_at_call 108; refine (inS _ _ _ _).mono ?_; rintro e w' ⟨rfl, rfl⟩))
      go_ret
      exact ⟨ret_b (by simp [isFanB, h2]), rfl⟩
    · have b2 := inB_t h2
      rcases h3 : inB l 1 h
      · go_enter Try.func139, Try.ntmps139
        go_wp2_with (first | (go_at_call 108; refine (inS _ _ _ _).mono ?_; rintro e w' ⟨rfl, rfl⟩))
        go_ret
        exact ⟨ret_b (by simp [isFanB, h3]), rfl⟩
      · obtain ⟨p, hp⟩ : ∃ p, n * n = p := ⟨_, rfl⟩
        obtain ⟨q, hq⟩ : ∃ q, h * h = q := ⟨_, rfl⟩
        have s1 := sq_bd (r := n) (by omega) (by omega)
        have s2 := sq_bd (r := h) (by omega) (by omega)
        rw [hp] at s1
        rw [hq] at s2
        go_enter Try.func139, Try.ntmps139
        go_wp2_with (first | (go_at_call 108; refine (inS _ _ _ _).mono ?_; rintro e w' ⟨rfl, rfl⟩))
        go_ret
        exact ⟨ret_b (by simp [isFanB, h1, h2, h3, hp, hq]), rfl⟩
theorem fanI (n l h : Int) (w : World) (_wn : -9223372036854775808 ≤ n) : Calls Try.prog 81 #[.int .i64 n, .int .i64 l, .int .i64 h] w fun e w' => e = .returned (.bool (isFanB n l h)) ∧ w = w' := by
  rcases h1 : inB n 2 1000
  · go_enter Try.func81, Try.ntmps81
    go_wp2_with (first | (go_at_call 123; refine (inI _ _ _ _).mono ?_; rintro e w' ⟨rfl, rfl⟩))
    go_ret
    exact ⟨ret_b (by simp [isFanB, h1]), rfl⟩
  · have b1 := inB_t h1
    rcases h2 : inB h 1 (n - 1)
    · go_enter Try.func81, Try.ntmps81
      go_wp2_with (first | (go_at_call 123; refine (inI _ _ _ _).mono ?_; rintro e w' ⟨rfl, rfl⟩))
      go_ret
      exact ⟨ret_b (by simp [isFanB, h2]), rfl⟩
    · have b2 := inB_t h2
      rcases h3 : inB l 1 h
      · go_enter Try.func81, Try.ntmps81
        go_wp2_with (first | (go_at_call 123; refine (inI _ _ _ _).mono ?_; rintro e w' ⟨rfl, rfl⟩))
        go_ret
        exact ⟨ret_b (by simp [isFanB, h3]), rfl⟩
      · obtain ⟨p, hp⟩ : ∃ p, n * n = p := ⟨_, rfl⟩
        obtain ⟨q, hq⟩ : ∃ q, h * h = q := ⟨_, rfl⟩
        have s1 := sq_bd (r := n) (by omega) (by omega)
        have s2 := sq_bd (r := h) (by omega) (by omega)
        rw [hp] at s1
        rw [hq] at s2
        go_enter Try.func81, Try.ntmps81
        go_wp2_with (first | (go_at_call 123; refine (inI _ _ _ _).mono ?_; rintro e w' ⟨rfl, rfl⟩))
        go_ret
        exact ⟨ret_b (by simp [isFanB, h1, h2, h3, hp, hq]), rfl⟩
end Go.Proofs.Ytnanahdhejiniaa
