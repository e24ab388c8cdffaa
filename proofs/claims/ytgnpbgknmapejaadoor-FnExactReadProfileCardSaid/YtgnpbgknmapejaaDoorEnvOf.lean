/- What the rows' lists of variables give, with the shape of the start: the readers' environment. -/
import Derived.Test.YtgnpbgknmapejaaDoorEnv
import Derived.Test.YtgnpbgknmapejaaDoorTab
import Derived.Stop.LaidErr
namespace Go.Proofs.YtgnpbgknmapejaaDoor
open Go.RowKit
set_option linter.unusedVariables false

theorem errStar : "*" ++ "errors.errorString" = "*errors.errorString" := by decide
theorem errRow (u : TypeId) (h : Tryd.prog.typeName? 3 u = some "*errors.errorString") : u = 156 :=
  typeName_ptr_named (nm := "errors.errorString") (by rw [errStar]; kernel_rfl) (by kernel_rfl) (by decide) u (by rw [errStar]; exact h)
theorem err_of {n : String} {g : Nat} {text : List UInt8} {r : List (String × DataW Unit)} {W : World} (hg : Tryd.prog.globalNamed n = some g) (ht : (Tryd.prog.globals[g]?).map (·.type) = some 78)
    (h : laidMet Tryd.prog ((n, .iface "*errors.errorString" (.ptr (.agg [.lit (.string text)]))) :: r) W) : ∃ tp p, W.var? Tryd.prog n = some #[.iface tp p] := by
  obtain ⟨a, s, hv, _⟩ := laid_sentinel h hg ht Tryd.underlying78 errRow Tryd.underlying156 Tryd.underlying158 rfl rfl Tryd.underlying9 (by kernel_rfl) (by kernel_rfl)
  exact ⟨_, _, hv⟩
theorem env_tail {r : List (String × DataW Unit)} {W : World} (T : Tab W) (h : laidMet Tryd.prog (("strconv.ErrRange", Rows.laid_strconv_ErrRange) :: ("strconv.ErrSyntax", Rows.laid_strconv_ErrSyntax) :: r) W) (hS : W.ShapedOpen Tryd.prog) : Env W := by
  refine ⟨T, ?_, ?_, Tryd.laysM145.s1_3 W hS⟩
  · exact err_of (g := 1) (by kernel_rfl) (by kernel_rfl) (laidMet.tail h)
  · exact err_of (g := 2) (by kernel_rfl) (by kernel_rfl) h
theorem env_of5 {a b : String × DataW Unit} {r : List (String × DataW Unit)} {W : World} (h : laidMet Tryd.prog (a :: b :: ("internal/strconv.uint64pow10", Rows.laid_internal_strconv_uint64pow10) :: ("strconv.ErrRange", Rows.laid_strconv_ErrRange) :: ("strconv.ErrSyntax", Rows.laid_strconv_ErrSyntax) :: r) W) (hS : W.ShapedOpen Tryd.prog) : Env W :=
  env_tail (tab_of h) (laidMet.tail (laidMet.tail (laidMet.tail h))) hS
theorem env_of7 {a b c : String × DataW Unit} {r : List (String × DataW Unit)} {W : World} (h : laidMet Tryd.prog (a :: b :: ("internal/strconv.uint64pow10", Rows.laid_internal_strconv_uint64pow10) :: c :: ("strconv.ErrRange", Rows.laid_strconv_ErrRange) :: ("strconv.ErrSyntax", Rows.laid_strconv_ErrSyntax) :: r) W) (hS : W.ShapedOpen Tryd.prog) : Env W :=
  env_tail (tab_of h) (laidMet.tail (laidMet.tail (laidMet.tail (laidMet.tail h)))) hS
end Go.Proofs.YtgnpbgknmapejaaDoor
