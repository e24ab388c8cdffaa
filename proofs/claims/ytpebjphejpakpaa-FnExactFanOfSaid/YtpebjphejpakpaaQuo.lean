/- Contracts of QuotientBounds, RootBounds, CommonDivisor, IsFan, of the program and of the reference; the walks of the laws on them. -/
import Derived.Test.YtpebjphejpakpaaLoop
import Derived.Test.YtpebjphejpakpaaInts
namespace Go.Proofs.Ytpebjphejpakpaa
open Go.RowKit

theorem isV_zero {a b : Int} (h : qc a b = 0) : isV a = true ∧ isV b = true ∧ ¬ b = 0 := by
  unfold qc at h
  split at h
  · split at h
    · omega
    · rename_i h1 h2; simp at h1; exact ⟨h1.1, h1.2, h2⟩
  · omega
theorem qc_cases (a b : Int) : qc a b = 0 ∨ qc a b = 2 ∨ qc a b = 5 := by
  unfold qc
  split
  · split <;> simp
  · simp

def qbLo (a b : Int) : Int := if qc a b = 0 then flo a b else 0
def qbHi (a b : Int) : Int := if qc a b = 0 then cel a b else 0
def cdvOk (a b : Int) : Bool := isV a && isV b
def cdv (a b : Int) : Int := if cdvOk a b then Int.gcd a b else 0
def cdvC (a b : Int) : Int := if cdvOk a b then 0 else 2
def rbOk (n : Int) : Bool := inB n 0 4000000000000000000
noncomputable def rbLo (n : Int) : Int := if rbOk n then rt n else 0
noncomputable def rbHi (n : Int) : Int := if rbOk n then rtUp n else 0
def rbC (n : Int) : Int := if rbOk n then 0 else 2
def isFanB (n l h : Int) : Bool := inB n 2 1000 && inB h 1 (n - 1) && inB l 1 h && decide (n * n + h * h ≤ 1000)


theorem fanS (n l h : Int) (w : World) (_wn : -9223372036854775808 ≤ n) : Calls Try.prog 96 #[.int .i64 n, .int .i64 l, .int .i64 h] w fun e w' => e = .returned (.bool (isFanB n l h)) ∧ w = w' := by
  rcases h1 : inB n 2 1000
  · go_enter Try.func96, Try.ntmps96
    go_wp2_with (first | (go_at_call 68; refine (inS _ _ _ _).mono ?_; rintro e w' ⟨rfl, rfl⟩))
    go_ret
    exact ⟨ret_b (by simp [isFanB, h1]), rfl⟩
  · have b1 := inB_t h1
    rcases h2 : inB h 1 (n - 1)
    · go_enter Try.func96, Try.ntmps96
      go_wp2_with (first | (go_at_call 68; refine (inS _ _ _ _).mono ?_; rintro e w' ⟨rfl, rfl⟩))
      go_ret
      exact ⟨ret_b (by simp [isFanB, h2]), rfl⟩
    · have b2 := inB_t h2
      rcases h3 : inB l 1 h
      · go_enter Try.func96, Try.ntmps96
        go_wp2_with (first | (go_at_call 68; refine (inS _ _ _ _).mono ?_; rintro e w' ⟨rfl, rfl⟩))
        go_ret
        exact ⟨ret_b (by simp [isFanB, h3]), rfl⟩
      · obtain ⟨p, hp⟩ : ∃ p, n * n = p := ⟨_, rfl⟩
        obtain ⟨q, hq⟩ : ∃ q, h * h = q := ⟨_, rfl⟩
        have s1 := sq_bd (r := n) (by omega) (by omega)
        have s2 := sq_bd (r := h) (by omega) (by omega)
        rw [hp] at s1
        rw [hq] at s2
        go_enter Try.func96, Try.ntmps96
        go_wp2_with (first | (go_at_call 68; refine (inS _ _ _ _).mono ?_; rintro e w' ⟨rfl, rfl⟩))
        go_ret
        exact ⟨ret_b (by simp [isFanB, h1, h2, h3, hp, hq]), rfl⟩
theorem fanI (n l h : Int) (w : World) (_wn : -9223372036854775808 ≤ n) : Calls Try.prog 98 #[.int .i64 n, .int .i64 l, .int .i64 h] w fun e w' => e = .returned (.bool (isFanB n l h)) ∧ w = w' := by
  rcases h1 : inB n 2 1000
  · go_enter Try.func98, Try.ntmps98
    go_wp2_with (first | (go_at_call 70; refine (inI _ _ _ _).mono ?_; rintro e w' ⟨rfl, rfl⟩))
    go_ret
    exact ⟨ret_b (by simp [isFanB, h1]), rfl⟩
  · have b1 := inB_t h1
    rcases h2 : inB h 1 (n - 1)
    · go_enter Try.func98, Try.ntmps98
      go_wp2_with (first | (go_at_call 70; refine (inI _ _ _ _).mono ?_; rintro e w' ⟨rfl, rfl⟩))
      go_ret
      exact ⟨ret_b (by simp [isFanB, h2]), rfl⟩
    · have b2 := inB_t h2
      rcases h3 : inB l 1 h
      · go_enter Try.func98, Try.ntmps98
        go_wp2_with (first | (go_at_call 70; refine (inI _ _ _ _).mono ?_; rintro e w' ⟨rfl, rfl⟩))
        go_ret
        exact ⟨ret_b (by simp [isFanB, h3]), rfl⟩
      · obtain ⟨p, hp⟩ : ∃ p, n * n = p := ⟨_, rfl⟩
        obtain ⟨q, hq⟩ : ∃ q, h * h = q := ⟨_, rfl⟩
        have s1 := sq_bd (r := n) (by omega) (by omega)
        have s2 := sq_bd (r := h) (by omega) (by omega)
        rw [hp] at s1
        rw [hq] at s2
        go_enter Try.func98, Try.ntmps98
        go_wp2_with (first | (go_at_call 70; refine (inI _ _ _ _).mono ?_; rintro e w' ⟨rfl, rfl⟩))
        go_ret
        exact ⟨ret_b (by simp [isFanB, h1, h2, h3, hp, hq]), rfl⟩
end Go.Proofs.Ytpebjphejpakpaa
