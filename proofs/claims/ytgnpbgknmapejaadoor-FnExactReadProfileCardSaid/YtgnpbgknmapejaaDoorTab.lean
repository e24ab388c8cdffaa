/- What the rows' lists of variables give: the table of powers of ten. -/
import Derived.Test.YtgnpbgknmapejaaDoorTxt
import Derived.Test.YtgnpbgknmapejaaDoorRows
import Derived.Lib.LaidTab
import Derived.Stop.LaidErr
namespace Go.Proofs.YtgnpbgknmapejaaDoor
open Go.RowKit
set_option linter.unusedVariables false

theorem tab_of {a b : String × DataW Unit} {r : List (String × DataW Unit)} {W : World} (h : laidMet Tryd.prog (a :: b :: ("internal/strconv.uint64pow10", Rows.laid_internal_strconv_uint64pow10) :: r) W) : Tab W :=
  Lib.tabIs_of_head (g := 5) (t := 161) (e := 121) (n := 20) (by kernel_rfl) (by kernel_rfl) Tryd.underlying161 Tryd.underlying121 (by kernel_rfl) (by kernel_rfl) (show laidMet Tryd.prog (("internal/strconv.uint64pow10", Lib.tabData .u64 Lib.pow10Tab) :: r) W from (laidMet.tail (laidMet.tail h)))
end Go.Proofs.YtgnpbgknmapejaaDoor
