/- Contracts of the loops on numbers: the greatest common divisor, integer square roots. -/
import Derived.Test.YtmddcmgkmdkclaaNum
import Derived.Deep.QuietTactic
import Derived.BigQuiet
namespace Go.Proofs.Ytmddcmgkmdkclaa
open Go.RowKit

theorem tmod_bd (p q : Int) : (p.tmod q).natAbs ≤ p.natAbs := by rw [Int.natAbs_tmod]; exact Nat.mod_le _ _
theorem tmod_lt (p : Int) {q : Int} (h : q ≠ 0) : (p.tmod q).natAbs < q.natAbs := by rw [Int.natAbs_tmod]; exact Nat.mod_lt _ (by omega)

end Go.Proofs.Ytmddcmgkmdkclaa
