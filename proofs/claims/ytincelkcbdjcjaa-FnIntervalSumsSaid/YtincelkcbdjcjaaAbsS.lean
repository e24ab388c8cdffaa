/- What the sum and the hull of a list of intervals give, with their terms put away. -/
import Derived.Test.YtincelkcbdjcjaaEnc
import Derived.Test.YtincelkcbdjcjaaLawI
import Derived.Test.YtincelkcbdjcjaaSrc
namespace Go.Proofs.Ytincelkcbdjcjaa
open Go.RowKit
set_option linter.unusedVariables false

theorem isIv_bdp' {l h : Int} (k : isIv l h = true) : (-1000000000000 ≤ l ∧ l ≤ 1000000000000) ∧ (-1000000000000 ≤ h ∧ h ≤ 1000000000000) ∧ l ≤ h := by
  simp only [isIv, Bool.and_eq_true, decide_eq_true_eq] at k
  exact ⟨isV_t k.1.1, isV_t k.1.2, k.2⟩
theorem hu_le {xs : List Iv} : ∀ n i : Nat, i < n → ∀ x y, xs[i]? = some (x, y) → huL xs n ≤ x ∧ y ≤ huH xs n
  | 0, i, h, _, _, _ => absurd h (Nat.not_lt_zero _)
  | n + 1, i, h, x, y, hx => by
    simp only [huL, huH, mnV, mxV]
    rcases Nat.lt_or_ge i n with h1 | h1
    · have := hu_le n i h1 x y hx
      constructor <;> split <;> omega
    · obtain rfl : i = n := by omega
      have e : xs.getD i (0, 0) = (x, y) := by simp [List.getD, hx]
      rw [e]
      constructor <;> split <;> omega
theorem su_le {xs : List Iv} (h : allIv xs = true) : ∀ n : Nat, n ≤ xs.length → suL xs n ≤ suH xs n
  | 0, _ => Int.le_refl _
  | n + 1, hn => by
    have ih := su_le h n (by omega)
    have hx : xs[n]? = some xs[n] := List.getElem?_eq_getElem (by omega)
    have := List.all_eq_true.1 h _ (List.mem_of_getElem? hx)
    simp only [isIv, Bool.and_eq_true, decide_eq_true_eq] at this
    have e : xs.getD n (0, 0) = xs[n] := by simp [List.getD, hx]
    simp only [suL, suH, e]
    omega
theorem sum_abs (xs : List Iv) : ∃ l h k L H K : Int, (∀ (w0 : World) (A : Option Addr) (n c : Nat), Ivs w0 A n xs → Calls Try.prog 23 #[.slice A n c] w0 fun o w' => o = .returned (.tuple #[.agg #[.int .i64 l, .int .i64 h], .int .i64 k]) ∧ Below w0.heap.size w0 w') ∧ (∀ (w0 : World) (A : Option Addr) (n c : Nat), Ivs w0 A n xs → Calls Try.prog 24 #[.slice A n c] w0 fun o w' => o = .returned (.tuple #[.agg #[.int .i64 l, .int .i64 h], .int .i64 k]) ∧ Below w0.heap.size w0 w') ∧ (∀ (w0 : World) (A : Option Addr) (n c : Nat), Ivs w0 A n xs → Calls Try.prog 25 #[.slice A n c] w0 fun o w' => o = .returned (.tuple #[.agg #[.int .i64 L, .int .i64 H], .int .i64 K]) ∧ Below w0.heap.size w0 w') ∧ (∀ (w0 : World) (A : Option Addr) (n c : Nat), Ivs w0 A n xs → Calls Try.prog 26 #[.slice A n c] w0 fun o w' => o = .returned (.tuple #[.agg #[.int .i64 L, .int .i64 H], .int .i64 K]) ∧ Below w0.heap.size w0 w') ∧
    (¬ k = 0 ∨ k = 0 ∧ xs.length ≤ 200 ∧ (xs.length = 0 ∨ K = 0) ∧ ∃ lo hi : Nat → Int, (lo 0 = 0 ∧ hi 0 = 0) ∧
      (∀ i : Nat, i < xs.length → ∀ x y : Int, xs[i]? = some (x, y) → ((-1000000000000 ≤ x ∧ x ≤ y ∧ y ≤ 1000000000000) ∧ lo (i + 1) = lo i + x ∧ hi (i + 1) = hi i + y ∧ L ≤ x ∧ y ≤ H) ∧ -1000000000000000 ≤ lo i ∧ hi i ≤ 1000000000000000) ∧
      ∀ t : Int, lo xs.length ≤ t → t ≤ hi xs.length → (∀ w0 : World, Calls Try.prog 30 #[.agg #[.int .i64 l, .int .i64 h], .int .i64 t] w0 fun o w' => o = .returned (.bool true) ∧ Below w0.heap.size w0 w')) := by
  refine ⟨smL xs, smH xs, smC xs, enL xs, enH xs, enC xs, fun w0 A n c I => sumI I c, fun w0 A n c I => sumS I c, fun w0 A n c I => encI I c, fun w0 A n c I => encS I c, ?_⟩
  by_cases hc : smC xs = 0
  · right
    have h2 : ¬ 200 < xs.length := by
      intro h
      unfold smC at hc
      rw [if_pos h] at hc
      omega
    have hall : allIv xs = true := by
      rcases hk : allIv xs
      · unfold smC at hc
        rw [if_neg h2, hk] at hc
        simp at hc
      · rfl
    have hrs : rsOk (suL xs xs.length) (suH xs xs.length) = true := by
      rcases hk : rsOk (suL xs xs.length) (suH xs xs.length)
      · unfold smC rsC at hc
        rw [if_neg h2, hall, hk] at hc
        simp at hc
      · rfl
    refine ⟨hc, by omega, ?_, suL xs, suH xs, ⟨rfl, rfl⟩, fun i hi x y hx => ?_, fun t h3 h4 w0 => ?_⟩
    · by_cases h0 : xs.length = 0
      · left; exact h0
      · right; unfold enC; rw [if_neg h2, hall]; simp [h0]
    · have hb := List.all_eq_true.1 hall _ (List.mem_of_getElem? hx)
      have hb2 := isIv_bdp' hb
      have hs := su_step hx
      have hu := hu_le (xs := xs) xs.length i hi x y hx
      have bd := su_bd hall i (by omega)
      have h0 : ¬ xs.length = 0 := by omega
      have e1 : enL xs = huL xs xs.length := by unfold enL; rw [if_neg h2, hall]; simp [h0]
      have e2 : enH xs = huH xs xs.length := by unfold enH; rw [if_neg h2, hall]; simp [h0]
      rw [e1, e2]
      simp only at hb2
      exact ⟨⟨by omega, hs.1, hs.2, hu.1, hu.2⟩, by omega, by omega⟩
    · have e1 : smL xs = suL xs xs.length := by unfold smL rsL; rw [if_neg h2, hall, hrs]; rfl
      have e2 : smH xs = suH xs xs.length := by unfold smH rsH; rw [if_neg h2, hall, hrs]; rfl
      rw [e1, e2]
      have := hasI (suL xs xs.length) (suH xs xs.length) t w0
      have hv : isV (suL xs xs.length) = true ∧ isV (suH xs xs.length) = true := by simpa [rsOk] using hrs
      have f : (isIv (suL xs xs.length) (suH xs xs.length) && inB t (suL xs xs.length) (suH xs xs.length)) = true := by
        unfold isIv
        rw [hv.1, hv.2, inB_mk ⟨h3, h4⟩, decide_eq_true (by omega)]
        rfl
      rw [f] at this
      exact this
  · left; exact hc
end Go.Proofs.Ytincelkcbdjcjaa
