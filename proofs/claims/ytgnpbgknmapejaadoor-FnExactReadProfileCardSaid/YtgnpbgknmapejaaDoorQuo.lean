/- Contracts of QuotientBounds, RootBounds, CommonDivisor, IsFan, of the program and of the reference; the walks of the laws on them. -/
import Derived.Test.YtgnpbgknmapejaaDoorLoop
import Derived.Test.YtgnpbgknmapejaaDoorInts
namespace Go.Proofs.YtgnpbgknmapejaaDoor
open Go.RowKit

theorem isV_zero {a b : Int} (h : qc a b = 0) : isV a = true ∧ isV b = true ∧ ¬ b = 0 := by
  unfold qc at h
  split at h
  · split at h
    · omega
    · rename_i h1 h2; simp at h1; exact ⟨h1.1, h1.2, h2⟩
  · omega
theorem qc_cases (a b : Int) : qc a b = 0 ∨ qc a b = 2 ∨ qc a b = 5 := by
  unfold qc
  split
  · split <;> simp
  · simp

def qbLo (a b : Int) : Int := if qc a b = 0 then flo a b else 0
def qbHi (a b : Int) : Int := if qc a b = 0 then cel a b else 0
def cdvOk (a b : Int) : Bool := isV a && isV b
def cdv (a b : Int) : Int := if cdvOk a b then Int.gcd a b else 0
def cdvC (a b : Int) : Int := if cdvOk a b then 0 else 2
def rbOk (n : Int) : Bool := inB n 0 4000000000000000000
noncomputable def rbLo (n : Int) : Int := if rbOk n then rt n else 0
noncomputable def rbHi (n : Int) : Int := if rbOk n then rtUp n else 0
def rbC (n : Int) : Int := if rbOk n then 0 else 2
def isFanB (n l h : Int) : Bool := inB n 2 1000 && inB h 1 (n - 1) && inB l 1 h && decide (n * n + h * h ≤ 1000)


end Go.Proofs.YtgnpbgknmapejaaDoor
