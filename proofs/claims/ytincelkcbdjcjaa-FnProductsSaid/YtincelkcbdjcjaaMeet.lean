/- MeetInterval: contracts. -/
import Derived.Test.YtincelkcbdjcjaaIvs
namespace Go.Proofs.Ytincelkcbdjcjaa
open Go.RowKit
set_option linter.unusedVariables false

theorem Ivs.two {W : World} {g : Nat} {a b c d : Int} (hg : g < W.heap.size) (c0 : W.cell? ⟨g, 0, none⟩ = some (.int .i64 a)) (c1 : W.cell? ⟨g, 1, none⟩ = some (.int .i64 b))
    (c2 : W.cell? ⟨g, 2, none⟩ = some (.int .i64 c)) (c3 : W.cell? ⟨g, 3, none⟩ = some (.int .i64 d))
    (wa : -9223372036854775808 ≤ a ∧ a ≤ 9223372036854775807) (wb : -9223372036854775808 ≤ b ∧ b ≤ 9223372036854775807) (wc : -9223372036854775808 ≤ c ∧ c ≤ 9223372036854775807) (wd : -9223372036854775808 ≤ d ∧ d ≤ 9223372036854775807) :
    Ivs W (some ⟨g, 0, none⟩) 2 [(a, b), (c, d)] := by
  refine ⟨rfl, by omega, ?_, fun _ => ⟨g, 0, rfl, hg, ?_⟩⟩
  · intro x hx
    simp only [List.mem_cons, List.not_mem_nil, or_false] at hx
    rcases hx with rfl | rfl
    · exact ⟨WalkArith.wf_i64 wa, WalkArith.wf_i64 wb⟩
    · exact ⟨WalkArith.wf_i64 wc, WalkArith.wf_i64 wd⟩
  · intro j hj
    rcases (by omega : j = 0 ∨ j = 1) with rfl | rfl
    · exact ⟨c0, c1⟩
    · exact ⟨c2, c3⟩
def iv2 (a b c d : Int) : Bool := isIv a b && isIv c d
theorem iv2_all (a b c d : Int) : allIv [(a, b), (c, d)] = iv2 a b c d := by simp [allIv, iv2]
def maxV (a b : Int) : Int := if a < b then b else a
def minV (a b : Int) : Int := if b < a then b else a
def mtOk (a b c d : Int) : Bool := iv2 a b c d && decide (maxV a c ≤ minV b d)
def mtL (a b c d : Int) : Int := if mtOk a b c d then maxV a c else 0
def mtH (a b c d : Int) : Int := if mtOk a b c d then minV b d else 0
def mtC (a b c d : Int) : Int := if iv2 a b c d then (if maxV a c ≤ minV b d then 0 else 4) else 1
theorem areTwoI {W : World} {g : Nat} {a b c d : Int} (hg : g < W.heap.size) (c0 : W.cell? ⟨g, 0, none⟩ = some (.int .i64 a)) (c1 : W.cell? ⟨g, 1, none⟩ = some (.int .i64 b))
    (c2 : W.cell? ⟨g, 2, none⟩ = some (.int .i64 c)) (c3 : W.cell? ⟨g, 3, none⟩ = some (.int .i64 d))
    (wa : -9223372036854775808 ≤ a ∧ a ≤ 9223372036854775807) (wb : -9223372036854775808 ≤ b ∧ b ≤ 9223372036854775807) (wc : -9223372036854775808 ≤ c ∧ c ≤ 9223372036854775807) (wd : -9223372036854775808 ≤ d ∧ d ≤ 9223372036854775807) (cap : Nat) :
    Calls Try.prog 69 #[.slice (some ⟨g, 0, none⟩) 2 cap] W fun e w' => e = .returned (.bool (iv2 a b c d)) ∧ Below W.heap.size W w' := by
  rw [← iv2_all]
  exact areIvI (Ivs.two hg c0 c1 c2 c3 wa wb wc wd) cap
end Go.Proofs.Ytincelkcbdjcjaa
