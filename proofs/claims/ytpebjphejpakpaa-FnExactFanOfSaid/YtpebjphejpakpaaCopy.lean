/- The contract of the copy of a list of numbers. -/
import Derived.Test.YtpebjphejpakpaaList
namespace Go.Proofs.Ytpebjphejpakpaa
open Go.RowKit
set_option linter.unusedVariables false

theorem infoI64 : (Try.prog.info? 2).map (fun i => (i.zero, i.size, i.bytes)) = some (some (.int .i64 0), 1, 8) := by kernel_rfl

/-- what a copy holds when k elements are copied -/
def partly (xs : List Int) (n k : Nat) : List Value := (xs.take k ++ List.replicate (n - k) 0).map (Value.int .i64)
theorem partly_zero (xs : List Int) (n : Nat) : partly xs n 0 = List.replicate n (Value.int .i64 0) := by simp [partly]
theorem partly_set {xs : List Int} {n k : Nat} {x : Int} (hl : xs.length = n) (hx : xs[k]? = some x) (hk : k < n) : (partly xs n k).set k (.int .i64 x) = partly xs n (k + 1) := by
  unfold partly
  rw [take_step hx, ← List.map_set]
  congr 1
  have e : n - k = (n - (k + 1)) + 1 := by omega
  rw [e, List.replicate_succ, List.set_append_right _ _ (by simp; omega)]
  simp [List.length_take, show min k xs.length = k by omega]
theorem partly_end {xs : List Int} {n : Nat} (hl : xs.length = n) : partly xs n n = xs.map (Value.int .i64) := by
  unfold partly
  rw [List.take_of_length_le (by omega)]
  simp

end Go.Proofs.Ytpebjphejpakpaa
