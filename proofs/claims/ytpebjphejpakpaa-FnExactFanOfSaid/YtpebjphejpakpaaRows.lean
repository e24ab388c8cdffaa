/-
  No cell of these rows narrows 'for every input' (looked for: loops, veiled, ifaces, maps, wideKeys, modest, calm, conditions, laid).
  DERIVED. THE GIVEN ROWS OF THIS SEAT. 16 by the template 'for every input the law returns true; each argument reads behind the call as it read before'; 0 by the template 'total and deterministic' (their statements: YtpebjphejpakpaaTotals.lean).
  GIVEN WITH THE SEED: the statements are not yours to turn. If you find one false, say at which input.
  Laid BY PROGRAM, IN A SANDBOX (cutbox-rows.mjs): the forced cells as the released guide's own fill.sh prints them over the translation 5334a5e5d3d09935… (all of the seat's roots in one cut). By AI agents, Wed Nov 11 2026. No macro, syntax, notation, axiom, sorry.
-/
import Derived.Test.YtpebjphejpakpaaChecked
import GoSem.Claim
import GoSem.ClaimJoined
import GoSem.ClaimMapViews
import Derived.JoinedTies
import Derived.KernelRfl
namespace Go.Proofs.Ytpebjphejpakpaa
/- THE CELL 'sum', in the pinned program and in every row, IS THE sha256 OF THE DUMP (.gsa) THAT YtpebjphejpakpaaProg.lean LOADS. Nothing in Lean hashes anything: it is a label: what it is worth is what the hold of that sum in a sandbox is worth. -/
noncomputable def Try.pinned : Pinned := { name := "ytpebjphejpakpaa", sum := "5334a5e5d3d09935053c3bf04029b5fdfc125453cf6ad4ac60e2bee57b2c84ae", checked := Try.checked }
namespace Rows
def none {H : Type} : Left H := { results := [], args := [] }

/-- 'laws.FnExactCompareRatios': WHATEVER THE INPUT: true; the input reads as it did. -/
def fnExactCompareRatiosSpec : ChangeSpec := { name := "fnExactCompareRatios", fn := fun _ => fun
  | [d1, d2] => { results := [.lit (.bool true)], args := [d1, d2] }
  | _ => none }
def fnExactCompareRatiosRow : OpenClaim := { program := "ytpebjphejpakpaa", sum := "5334a5e5d3d09935053c3bf04029b5fdfc125453cf6ad4ac60e2bee57b2c84ae", func := "loop.example/g00915/laws.FnExactCompareRatios", spec := "fnExactCompareRatios", apart := false }
def FnExactCompareRatiosSaid : Prop := fnExactCompareRatiosRow.holds Try.pinned (OpenSpec.ofChange fnExactCompareRatiosSpec)

/-- ITS FALSE NEIGHBOUR: 'it returns false'. Refute it at one input. -/
def fnExactCompareRatiosWrong : ChangeSpec := { name := "fnExactCompareRatios", fn := fun _ => fun
  | [d1, d2] => { results := [.lit (.bool false)], args := [d1, d2] }
  | _ => none }
def FnExactCompareRatiosWrongFalsely : Prop := fnExactCompareRatiosRow.holds Try.pinned (OpenSpec.ofChange fnExactCompareRatiosWrong)

/-- 'laws.FnExactMirrorDirection': WHATEVER THE INPUT: true; the input reads as it did. -/
def fnExactMirrorDirectionSpec : ChangeSpec := { name := "fnExactMirrorDirection", fn := fun _ => fun
  | [d] => { results := [.lit (.bool true)], args := [d] }
  | _ => none }
def fnExactMirrorDirectionRow : OpenClaim := { program := "ytpebjphejpakpaa", sum := "5334a5e5d3d09935053c3bf04029b5fdfc125453cf6ad4ac60e2bee57b2c84ae", func := "loop.example/g00915/laws.FnExactMirrorDirection", spec := "fnExactMirrorDirection", apart := false }
def FnExactMirrorDirectionSaid : Prop := fnExactMirrorDirectionRow.holds Try.pinned (OpenSpec.ofChange fnExactMirrorDirectionSpec)

/-- ITS FALSE NEIGHBOUR: 'it returns false'. Refute it at one input. -/
def fnExactMirrorDirectionWrong : ChangeSpec := { name := "fnExactMirrorDirection", fn := fun _ => fun
  | [d] => { results := [.lit (.bool false)], args := [d] }
  | _ => none }
def FnExactMirrorDirectionWrongFalsely : Prop := fnExactMirrorDirectionRow.holds Try.pinned (OpenSpec.ofChange fnExactMirrorDirectionWrong)

/-- 'laws.FnExactCompareDirections': WHATEVER THE INPUT: true; the input reads as it did. -/
def fnExactCompareDirectionsSpec : ChangeSpec := { name := "fnExactCompareDirections", fn := fun _ => fun
  | [d1, d2] => { results := [.lit (.bool true)], args := [d1, d2] }
  | _ => none }
def fnExactCompareDirectionsRow : OpenClaim := { program := "ytpebjphejpakpaa", sum := "5334a5e5d3d09935053c3bf04029b5fdfc125453cf6ad4ac60e2bee57b2c84ae", func := "loop.example/g00915/laws.FnExactCompareDirections", spec := "fnExactCompareDirections", apart := false }
def FnExactCompareDirectionsSaid : Prop := fnExactCompareDirectionsRow.holds Try.pinned (OpenSpec.ofChange fnExactCompareDirectionsSpec)

/-- ITS FALSE NEIGHBOUR: 'it returns false'. Refute it at one input. -/
def fnExactCompareDirectionsWrong : ChangeSpec := { name := "fnExactCompareDirections", fn := fun _ => fun
  | [d1, d2] => { results := [.lit (.bool false)], args := [d1, d2] }
  | _ => none }
def FnExactCompareDirectionsWrongFalsely : Prop := fnExactCompareDirectionsRow.holds Try.pinned (OpenSpec.ofChange fnExactCompareDirectionsWrong)

/-- 'laws.FnExactMakeDirection': WHATEVER THE INPUT: true; the input reads as it did. -/
def fnExactMakeDirectionSpec : ChangeSpec := { name := "fnExactMakeDirection", fn := fun _ => fun
  | [d1, d2, d3] => { results := [.lit (.bool true)], args := [d1, d2, d3] }
  | _ => none }
def fnExactMakeDirectionRow : OpenClaim := { program := "ytpebjphejpakpaa", sum := "5334a5e5d3d09935053c3bf04029b5fdfc125453cf6ad4ac60e2bee57b2c84ae", func := "loop.example/g00915/laws.FnExactMakeDirection", spec := "fnExactMakeDirection", apart := false }
def FnExactMakeDirectionSaid : Prop := fnExactMakeDirectionRow.holds Try.pinned (OpenSpec.ofChange fnExactMakeDirectionSpec)

/-- ITS FALSE NEIGHBOUR: 'it returns false'. Refute it at one input. -/
def fnExactMakeDirectionWrong : ChangeSpec := { name := "fnExactMakeDirection", fn := fun _ => fun
  | [d1, d2, d3] => { results := [.lit (.bool false)], args := [d1, d2, d3] }
  | _ => none }
def FnExactMakeDirectionWrongFalsely : Prop := fnExactMakeDirectionRow.holds Try.pinned (OpenSpec.ofChange fnExactMakeDirectionWrong)

/-- 'laws.FnExactLiesBetween': WHATEVER THE INPUT: true; the input reads as it did. -/
def fnExactLiesBetweenSpec : ChangeSpec := { name := "fnExactLiesBetween", fn := fun _ => fun
  | [d1, d2, d3] => { results := [.lit (.bool true)], args := [d1, d2, d3] }
  | _ => none }
def fnExactLiesBetweenRow : OpenClaim := { program := "ytpebjphejpakpaa", sum := "5334a5e5d3d09935053c3bf04029b5fdfc125453cf6ad4ac60e2bee57b2c84ae", func := "loop.example/g00915/laws.FnExactLiesBetween", spec := "fnExactLiesBetween", apart := false }
def FnExactLiesBetweenSaid : Prop := fnExactLiesBetweenRow.holds Try.pinned (OpenSpec.ofChange fnExactLiesBetweenSpec)

/-- ITS FALSE NEIGHBOUR: 'it returns false'. Refute it at one input. -/
def fnExactLiesBetweenWrong : ChangeSpec := { name := "fnExactLiesBetween", fn := fun _ => fun
  | [d1, d2, d3] => { results := [.lit (.bool false)], args := [d1, d2, d3] }
  | _ => none }
def FnExactLiesBetweenWrongFalsely : Prop := fnExactLiesBetweenRow.holds Try.pinned (OpenSpec.ofChange fnExactLiesBetweenWrong)

/-- 'laws.FnExactNearestQuotient': WHATEVER THE INPUT: true; the input reads as it did. -/
def fnExactNearestQuotientSpec : ChangeSpec := { name := "fnExactNearestQuotient", fn := fun _ => fun
  | [d1, d2] => { results := [.lit (.bool true)], args := [d1, d2] }
  | _ => none }
def fnExactNearestQuotientRow : OpenClaim := { program := "ytpebjphejpakpaa", sum := "5334a5e5d3d09935053c3bf04029b5fdfc125453cf6ad4ac60e2bee57b2c84ae", func := "loop.example/g00915/laws.FnExactNearestQuotient", spec := "fnExactNearestQuotient", apart := false }
def FnExactNearestQuotientSaid : Prop := fnExactNearestQuotientRow.holds Try.pinned (OpenSpec.ofChange fnExactNearestQuotientSpec)

/-- ITS FALSE NEIGHBOUR: 'it returns false'. Refute it at one input. -/
def fnExactNearestQuotientWrong : ChangeSpec := { name := "fnExactNearestQuotient", fn := fun _ => fun
  | [d1, d2] => { results := [.lit (.bool false)], args := [d1, d2] }
  | _ => none }
def FnExactNearestQuotientWrongFalsely : Prop := fnExactNearestQuotientRow.holds Try.pinned (OpenSpec.ofChange fnExactNearestQuotientWrong)

/-- 'laws.FnExactScaledInterval': WHATEVER THE INPUT: true; the input reads as it did. -/
def fnExactScaledIntervalSpec : ChangeSpec := { name := "fnExactScaledInterval", fn := fun _ => fun
  | [d1, d2, d3] => { results := [.lit (.bool true)], args := [d1, d2, d3] }
  | _ => none }
def fnExactScaledIntervalRow : OpenClaim := { program := "ytpebjphejpakpaa", sum := "5334a5e5d3d09935053c3bf04029b5fdfc125453cf6ad4ac60e2bee57b2c84ae", func := "loop.example/g00915/laws.FnExactScaledInterval", spec := "fnExactScaledInterval", apart := false }
def FnExactScaledIntervalSaid : Prop := fnExactScaledIntervalRow.holds Try.pinned (OpenSpec.ofChange fnExactScaledIntervalSpec)

/-- ITS FALSE NEIGHBOUR: 'it returns false'. Refute it at one input. -/
def fnExactScaledIntervalWrong : ChangeSpec := { name := "fnExactScaledInterval", fn := fun _ => fun
  | [d1, d2, d3] => { results := [.lit (.bool false)], args := [d1, d2, d3] }
  | _ => none }
def FnExactScaledIntervalWrongFalsely : Prop := fnExactScaledIntervalRow.holds Try.pinned (OpenSpec.ofChange fnExactScaledIntervalWrong)

/-- 'laws.FnExactAddRatios': WHATEVER THE INPUT: true; the input reads as it did. -/
def fnExactAddRatiosSpec : ChangeSpec := { name := "fnExactAddRatios", fn := fun _ => fun
  | [d1, d2] => { results := [.lit (.bool true)], args := [d1, d2] }
  | _ => none }
def fnExactAddRatiosRow : OpenClaim := { program := "ytpebjphejpakpaa", sum := "5334a5e5d3d09935053c3bf04029b5fdfc125453cf6ad4ac60e2bee57b2c84ae", func := "loop.example/g00915/laws.FnExactAddRatios", spec := "fnExactAddRatios", apart := false }
def FnExactAddRatiosSaid : Prop := fnExactAddRatiosRow.holds Try.pinned (OpenSpec.ofChange fnExactAddRatiosSpec)

/-- ITS FALSE NEIGHBOUR: 'it returns false'. Refute it at one input. -/
def fnExactAddRatiosWrong : ChangeSpec := { name := "fnExactAddRatios", fn := fun _ => fun
  | [d1, d2] => { results := [.lit (.bool false)], args := [d1, d2] }
  | _ => none }
def FnExactAddRatiosWrongFalsely : Prop := fnExactAddRatiosRow.holds Try.pinned (OpenSpec.ofChange fnExactAddRatiosWrong)

/-- 'laws.FnExactMediantOf': WHATEVER THE INPUT: true; the input reads as it did. -/
def fnExactMediantOfSpec : ChangeSpec := { name := "fnExactMediantOf", fn := fun _ => fun
  | [d1, d2] => { results := [.lit (.bool true)], args := [d1, d2] }
  | _ => none }
def fnExactMediantOfRow : OpenClaim := { program := "ytpebjphejpakpaa", sum := "5334a5e5d3d09935053c3bf04029b5fdfc125453cf6ad4ac60e2bee57b2c84ae", func := "loop.example/g00915/laws.FnExactMediantOf", spec := "fnExactMediantOf", apart := false }
def FnExactMediantOfSaid : Prop := fnExactMediantOfRow.holds Try.pinned (OpenSpec.ofChange fnExactMediantOfSpec)

/-- ITS FALSE NEIGHBOUR: 'it returns false'. Refute it at one input. -/
def fnExactMediantOfWrong : ChangeSpec := { name := "fnExactMediantOf", fn := fun _ => fun
  | [d1, d2] => { results := [.lit (.bool false)], args := [d1, d2] }
  | _ => none }
def FnExactMediantOfWrongFalsely : Prop := fnExactMediantOfRow.holds Try.pinned (OpenSpec.ofChange fnExactMediantOfWrong)

/-- 'laws.FnExactMultiplyRatios': WHATEVER THE INPUT: true; the input reads as it did. -/
def fnExactMultiplyRatiosSpec : ChangeSpec := { name := "fnExactMultiplyRatios", fn := fun _ => fun
  | [d1, d2] => { results := [.lit (.bool true)], args := [d1, d2] }
  | _ => none }
def fnExactMultiplyRatiosRow : OpenClaim := { program := "ytpebjphejpakpaa", sum := "5334a5e5d3d09935053c3bf04029b5fdfc125453cf6ad4ac60e2bee57b2c84ae", func := "loop.example/g00915/laws.FnExactMultiplyRatios", spec := "fnExactMultiplyRatios", apart := false }
def FnExactMultiplyRatiosSaid : Prop := fnExactMultiplyRatiosRow.holds Try.pinned (OpenSpec.ofChange fnExactMultiplyRatiosSpec)

/-- ITS FALSE NEIGHBOUR: 'it returns false'. Refute it at one input. -/
def fnExactMultiplyRatiosWrong : ChangeSpec := { name := "fnExactMultiplyRatios", fn := fun _ => fun
  | [d1, d2] => { results := [.lit (.bool false)], args := [d1, d2] }
  | _ => none }
def FnExactMultiplyRatiosWrongFalsely : Prop := fnExactMultiplyRatiosRow.holds Try.pinned (OpenSpec.ofChange fnExactMultiplyRatiosWrong)

/-- 'laws.FnExactProductInterval': WHATEVER THE INPUT: true; the input reads as it did. -/
def fnExactProductIntervalSpec : ChangeSpec := { name := "fnExactProductInterval", fn := fun _ => fun
  | [d1, d2] => { results := [.lit (.bool true)], args := [d1, d2] }
  | _ => none }
def fnExactProductIntervalRow : OpenClaim := { program := "ytpebjphejpakpaa", sum := "5334a5e5d3d09935053c3bf04029b5fdfc125453cf6ad4ac60e2bee57b2c84ae", func := "loop.example/g00915/laws.FnExactProductInterval", spec := "fnExactProductInterval", apart := false }
def FnExactProductIntervalSaid : Prop := fnExactProductIntervalRow.holds Try.pinned (OpenSpec.ofChange fnExactProductIntervalSpec)

/-- ITS FALSE NEIGHBOUR: 'it returns false'. Refute it at one input. -/
def fnExactProductIntervalWrong : ChangeSpec := { name := "fnExactProductInterval", fn := fun _ => fun
  | [d1, d2] => { results := [.lit (.bool false)], args := [d1, d2] }
  | _ => none }
def FnExactProductIntervalWrongFalsely : Prop := fnExactProductIntervalRow.holds Try.pinned (OpenSpec.ofChange fnExactProductIntervalWrong)

/-- 'laws.FnExactInvertRatio': WHATEVER THE INPUT: true; the input reads as it did. -/
def fnExactInvertRatioSpec : ChangeSpec := { name := "fnExactInvertRatio", fn := fun _ => fun
  | [d] => { results := [.lit (.bool true)], args := [d] }
  | _ => none }
def fnExactInvertRatioRow : OpenClaim := { program := "ytpebjphejpakpaa", sum := "5334a5e5d3d09935053c3bf04029b5fdfc125453cf6ad4ac60e2bee57b2c84ae", func := "loop.example/g00915/laws.FnExactInvertRatio", spec := "fnExactInvertRatio", apart := false }
def FnExactInvertRatioSaid : Prop := fnExactInvertRatioRow.holds Try.pinned (OpenSpec.ofChange fnExactInvertRatioSpec)

/-- ITS FALSE NEIGHBOUR: 'it returns false'. Refute it at one input. -/
def fnExactInvertRatioWrong : ChangeSpec := { name := "fnExactInvertRatio", fn := fun _ => fun
  | [d] => { results := [.lit (.bool false)], args := [d] }
  | _ => none }
def FnExactInvertRatioWrongFalsely : Prop := fnExactInvertRatioRow.holds Try.pinned (OpenSpec.ofChange fnExactInvertRatioWrong)

/-- 'laws.FnExactMakeRatio': WHATEVER THE INPUT: true; the input reads as it did. -/
def fnExactMakeRatioSpec : ChangeSpec := { name := "fnExactMakeRatio", fn := fun _ => fun
  | [d1, d2] => { results := [.lit (.bool true)], args := [d1, d2] }
  | _ => none }
def fnExactMakeRatioRow : OpenClaim := { program := "ytpebjphejpakpaa", sum := "5334a5e5d3d09935053c3bf04029b5fdfc125453cf6ad4ac60e2bee57b2c84ae", func := "loop.example/g00915/laws.FnExactMakeRatio", spec := "fnExactMakeRatio", apart := false }
def FnExactMakeRatioSaid : Prop := fnExactMakeRatioRow.holds Try.pinned (OpenSpec.ofChange fnExactMakeRatioSpec)

/-- ITS FALSE NEIGHBOUR: 'it returns false'. Refute it at one input. -/
def fnExactMakeRatioWrong : ChangeSpec := { name := "fnExactMakeRatio", fn := fun _ => fun
  | [d1, d2] => { results := [.lit (.bool false)], args := [d1, d2] }
  | _ => none }
def FnExactMakeRatioWrongFalsely : Prop := fnExactMakeRatioRow.holds Try.pinned (OpenSpec.ofChange fnExactMakeRatioWrong)

/-- 'laws.FnExactQuotientInterval': WHATEVER THE INPUT: true; the input reads as it did. -/
def fnExactQuotientIntervalSpec : ChangeSpec := { name := "fnExactQuotientInterval", fn := fun _ => fun
  | [d1, d2] => { results := [.lit (.bool true)], args := [d1, d2] }
  | _ => none }
def fnExactQuotientIntervalRow : OpenClaim := { program := "ytpebjphejpakpaa", sum := "5334a5e5d3d09935053c3bf04029b5fdfc125453cf6ad4ac60e2bee57b2c84ae", func := "loop.example/g00915/laws.FnExactQuotientInterval", spec := "fnExactQuotientInterval", apart := false }
def FnExactQuotientIntervalSaid : Prop := fnExactQuotientIntervalRow.holds Try.pinned (OpenSpec.ofChange fnExactQuotientIntervalSpec)

/-- ITS FALSE NEIGHBOUR: 'it returns false'. Refute it at one input. -/
def fnExactQuotientIntervalWrong : ChangeSpec := { name := "fnExactQuotientInterval", fn := fun _ => fun
  | [d1, d2] => { results := [.lit (.bool false)], args := [d1, d2] }
  | _ => none }
def FnExactQuotientIntervalWrongFalsely : Prop := fnExactQuotientIntervalRow.holds Try.pinned (OpenSpec.ofChange fnExactQuotientIntervalWrong)

/-- 'laws.FnExactRatioBounds': WHATEVER THE INPUT: true; the input reads as it did. -/
def fnExactRatioBoundsSpec : ChangeSpec := { name := "fnExactRatioBounds", fn := fun _ => fun
  | [d1, d2] => { results := [.lit (.bool true)], args := [d1, d2] }
  | _ => none }
def fnExactRatioBoundsRow : OpenClaim := { program := "ytpebjphejpakpaa", sum := "5334a5e5d3d09935053c3bf04029b5fdfc125453cf6ad4ac60e2bee57b2c84ae", func := "loop.example/g00915/laws.FnExactRatioBounds", spec := "fnExactRatioBounds", apart := false }
def FnExactRatioBoundsSaid : Prop := fnExactRatioBoundsRow.holds Try.pinned (OpenSpec.ofChange fnExactRatioBoundsSpec)

/-- ITS FALSE NEIGHBOUR: 'it returns false'. Refute it at one input. -/
def fnExactRatioBoundsWrong : ChangeSpec := { name := "fnExactRatioBounds", fn := fun _ => fun
  | [d1, d2] => { results := [.lit (.bool false)], args := [d1, d2] }
  | _ => none }
def FnExactRatioBoundsWrongFalsely : Prop := fnExactRatioBoundsRow.holds Try.pinned (OpenSpec.ofChange fnExactRatioBoundsWrong)

/-- 'laws.FnExactFanOf': WHATEVER THE INPUT: true; the input reads as it did. -/
def fnExactFanOfSpec : ChangeSpec := { name := "fnExactFanOf", fn := fun _ => fun
  | [d1, d2, d3, d4] => { results := [.lit (.bool true)], args := [d1, d2, d3, d4] }
  | _ => none }
def fnExactFanOfRow : OpenClaim := { program := "ytpebjphejpakpaa", sum := "5334a5e5d3d09935053c3bf04029b5fdfc125453cf6ad4ac60e2bee57b2c84ae", func := "loop.example/g00915/laws.FnExactFanOf", spec := "fnExactFanOf", apart := false }
def FnExactFanOfSaid : Prop := fnExactFanOfRow.holds Try.pinned (OpenSpec.ofChange fnExactFanOfSpec)

/-- ITS FALSE NEIGHBOUR: 'it returns false'. Refute it at one input. -/
def fnExactFanOfWrong : ChangeSpec := { name := "fnExactFanOf", fn := fun _ => fun
  | [d1, d2, d3, d4] => { results := [.lit (.bool false)], args := [d1, d2, d3, d4] }
  | _ => none }
def FnExactFanOfWrongFalsely : Prop := fnExactFanOfRow.holds Try.pinned (OpenSpec.ofChange fnExactFanOfWrong)

/- THE SECOND FORM. 'bulk': how many values and letters a reading holds, each counted each time it is reached (what is shared counts as often as it is met; a slice's spare places count too). A statement '..UptoSaid' is the law's where the arguments, and the package variables that the reading takes, are together of bulk at most 1048576: NARROWER than '..Said'. Prove '..Said' where nothing that the law and all that it calls make is longer than what came in: it says more and counts as full. Else prove '..UptoSaid'. A law counts once. -/
mutual
def uptoBulk {H : Type} : DataW H → Nat
  | .lit (.string bytes) => bytes.length + 1
  | .lit _ => 1
  | .nil => 1
  | .ptr d => uptoBulk d + 1
  | .slice elems spare => uptoBulkAll elems + uptoBulkAll spare + 1
  | .agg parts => uptoBulkAll parts + 1
  | .iface _ d => uptoBulk d + 1
  | .map entries => uptoBulkEntries entries + 1
  | .held _ => 1
def uptoBulkAll {H : Type} : List (DataW H) → Nat
  | [] => 0
  | d :: r => uptoBulk d + uptoBulkAll r
def uptoBulkEntries {H : Type} : List (Lit × DataW H) → Nat
  | [] => 0
  | x :: r => uptoBulkEntry x + uptoBulkEntries r
def uptoBulkEntry {H : Type} : Lit × DataW H → Nat
  | (.string bytes, d) => bytes.length + uptoBulk d + 1
  | (_, d) => uptoBulk d + 1
 end
def uptoSmall : (H : Type) → List (DataW H) → Bool := fun _ ds => decide (uptoBulkAll ds ≤ 1048576)
def OpenSpec.upto (s : _root_.Go.ChangeSpec) : _root_.Go.OpenSpec := { _root_.Go.OpenSpec.ofChange s with cond := some uptoSmall }

/-- 'laws.FnExactCompareRatios', WHERE WHAT IT READS IS OF BULK AT MOST 1048576: true; the input reads as it did. -/
def fnExactCompareRatiosUptoRow : OpenClaim := { program := "ytpebjphejpakpaa", sum := "5334a5e5d3d09935053c3bf04029b5fdfc125453cf6ad4ac60e2bee57b2c84ae", func := "loop.example/g00915/laws.FnExactCompareRatios", spec := "fnExactCompareRatios", apart := false, narrowed := true }
def FnExactCompareRatiosUptoSaid : Prop := fnExactCompareRatiosUptoRow.holds Try.pinned (OpenSpec.upto fnExactCompareRatiosSpec)

/-- 'laws.FnExactMirrorDirection', WHERE WHAT IT READS IS OF BULK AT MOST 1048576: true; the input reads as it did. -/
def fnExactMirrorDirectionUptoRow : OpenClaim := { program := "ytpebjphejpakpaa", sum := "5334a5e5d3d09935053c3bf04029b5fdfc125453cf6ad4ac60e2bee57b2c84ae", func := "loop.example/g00915/laws.FnExactMirrorDirection", spec := "fnExactMirrorDirection", apart := false, narrowed := true }
def FnExactMirrorDirectionUptoSaid : Prop := fnExactMirrorDirectionUptoRow.holds Try.pinned (OpenSpec.upto fnExactMirrorDirectionSpec)

/-- 'laws.FnExactCompareDirections', WHERE WHAT IT READS IS OF BULK AT MOST 1048576: true; the input reads as it did. -/
def fnExactCompareDirectionsUptoRow : OpenClaim := { program := "ytpebjphejpakpaa", sum := "5334a5e5d3d09935053c3bf04029b5fdfc125453cf6ad4ac60e2bee57b2c84ae", func := "loop.example/g00915/laws.FnExactCompareDirections", spec := "fnExactCompareDirections", apart := false, narrowed := true }
def FnExactCompareDirectionsUptoSaid : Prop := fnExactCompareDirectionsUptoRow.holds Try.pinned (OpenSpec.upto fnExactCompareDirectionsSpec)

/-- 'laws.FnExactMakeDirection', WHERE WHAT IT READS IS OF BULK AT MOST 1048576: true; the input reads as it did. -/
def fnExactMakeDirectionUptoRow : OpenClaim := { program := "ytpebjphejpakpaa", sum := "5334a5e5d3d09935053c3bf04029b5fdfc125453cf6ad4ac60e2bee57b2c84ae", func := "loop.example/g00915/laws.FnExactMakeDirection", spec := "fnExactMakeDirection", apart := false, narrowed := true }
def FnExactMakeDirectionUptoSaid : Prop := fnExactMakeDirectionUptoRow.holds Try.pinned (OpenSpec.upto fnExactMakeDirectionSpec)

/-- 'laws.FnExactLiesBetween', WHERE WHAT IT READS IS OF BULK AT MOST 1048576: true; the input reads as it did. -/
def fnExactLiesBetweenUptoRow : OpenClaim := { program := "ytpebjphejpakpaa", sum := "5334a5e5d3d09935053c3bf04029b5fdfc125453cf6ad4ac60e2bee57b2c84ae", func := "loop.example/g00915/laws.FnExactLiesBetween", spec := "fnExactLiesBetween", apart := false, narrowed := true }
def FnExactLiesBetweenUptoSaid : Prop := fnExactLiesBetweenUptoRow.holds Try.pinned (OpenSpec.upto fnExactLiesBetweenSpec)

/-- 'laws.FnExactNearestQuotient', WHERE WHAT IT READS IS OF BULK AT MOST 1048576: true; the input reads as it did. -/
def fnExactNearestQuotientUptoRow : OpenClaim := { program := "ytpebjphejpakpaa", sum := "5334a5e5d3d09935053c3bf04029b5fdfc125453cf6ad4ac60e2bee57b2c84ae", func := "loop.example/g00915/laws.FnExactNearestQuotient", spec := "fnExactNearestQuotient", apart := false, narrowed := true }
def FnExactNearestQuotientUptoSaid : Prop := fnExactNearestQuotientUptoRow.holds Try.pinned (OpenSpec.upto fnExactNearestQuotientSpec)

/-- 'laws.FnExactScaledInterval', WHERE WHAT IT READS IS OF BULK AT MOST 1048576: true; the input reads as it did. -/
def fnExactScaledIntervalUptoRow : OpenClaim := { program := "ytpebjphejpakpaa", sum := "5334a5e5d3d09935053c3bf04029b5fdfc125453cf6ad4ac60e2bee57b2c84ae", func := "loop.example/g00915/laws.FnExactScaledInterval", spec := "fnExactScaledInterval", apart := false, narrowed := true }
def FnExactScaledIntervalUptoSaid : Prop := fnExactScaledIntervalUptoRow.holds Try.pinned (OpenSpec.upto fnExactScaledIntervalSpec)

/-- 'laws.FnExactAddRatios', WHERE WHAT IT READS IS OF BULK AT MOST 1048576: true; the input reads as it did. -/
def fnExactAddRatiosUptoRow : OpenClaim := { program := "ytpebjphejpakpaa", sum := "5334a5e5d3d09935053c3bf04029b5fdfc125453cf6ad4ac60e2bee57b2c84ae", func := "loop.example/g00915/laws.FnExactAddRatios", spec := "fnExactAddRatios", apart := false, narrowed := true }
def FnExactAddRatiosUptoSaid : Prop := fnExactAddRatiosUptoRow.holds Try.pinned (OpenSpec.upto fnExactAddRatiosSpec)

/-- 'laws.FnExactMediantOf', WHERE WHAT IT READS IS OF BULK AT MOST 1048576: true; the input reads as it did. -/
def fnExactMediantOfUptoRow : OpenClaim := { program := "ytpebjphejpakpaa", sum := "5334a5e5d3d09935053c3bf04029b5fdfc125453cf6ad4ac60e2bee57b2c84ae", func := "loop.example/g00915/laws.FnExactMediantOf", spec := "fnExactMediantOf", apart := false, narrowed := true }
def FnExactMediantOfUptoSaid : Prop := fnExactMediantOfUptoRow.holds Try.pinned (OpenSpec.upto fnExactMediantOfSpec)

/-- 'laws.FnExactMultiplyRatios', WHERE WHAT IT READS IS OF BULK AT MOST 1048576: true; the input reads as it did. -/
def fnExactMultiplyRatiosUptoRow : OpenClaim := { program := "ytpebjphejpakpaa", sum := "5334a5e5d3d09935053c3bf04029b5fdfc125453cf6ad4ac60e2bee57b2c84ae", func := "loop.example/g00915/laws.FnExactMultiplyRatios", spec := "fnExactMultiplyRatios", apart := false, narrowed := true }
def FnExactMultiplyRatiosUptoSaid : Prop := fnExactMultiplyRatiosUptoRow.holds Try.pinned (OpenSpec.upto fnExactMultiplyRatiosSpec)

/-- 'laws.FnExactProductInterval', WHERE WHAT IT READS IS OF BULK AT MOST 1048576: true; the input reads as it did. -/
def fnExactProductIntervalUptoRow : OpenClaim := { program := "ytpebjphejpakpaa", sum := "5334a5e5d3d09935053c3bf04029b5fdfc125453cf6ad4ac60e2bee57b2c84ae", func := "loop.example/g00915/laws.FnExactProductInterval", spec := "fnExactProductInterval", apart := false, narrowed := true }
def FnExactProductIntervalUptoSaid : Prop := fnExactProductIntervalUptoRow.holds Try.pinned (OpenSpec.upto fnExactProductIntervalSpec)

/-- 'laws.FnExactInvertRatio', WHERE WHAT IT READS IS OF BULK AT MOST 1048576: true; the input reads as it did. -/
def fnExactInvertRatioUptoRow : OpenClaim := { program := "ytpebjphejpakpaa", sum := "5334a5e5d3d09935053c3bf04029b5fdfc125453cf6ad4ac60e2bee57b2c84ae", func := "loop.example/g00915/laws.FnExactInvertRatio", spec := "fnExactInvertRatio", apart := false, narrowed := true }
def FnExactInvertRatioUptoSaid : Prop := fnExactInvertRatioUptoRow.holds Try.pinned (OpenSpec.upto fnExactInvertRatioSpec)

/-- 'laws.FnExactMakeRatio', WHERE WHAT IT READS IS OF BULK AT MOST 1048576: true; the input reads as it did. -/
def fnExactMakeRatioUptoRow : OpenClaim := { program := "ytpebjphejpakpaa", sum := "5334a5e5d3d09935053c3bf04029b5fdfc125453cf6ad4ac60e2bee57b2c84ae", func := "loop.example/g00915/laws.FnExactMakeRatio", spec := "fnExactMakeRatio", apart := false, narrowed := true }
def FnExactMakeRatioUptoSaid : Prop := fnExactMakeRatioUptoRow.holds Try.pinned (OpenSpec.upto fnExactMakeRatioSpec)

/-- 'laws.FnExactQuotientInterval', WHERE WHAT IT READS IS OF BULK AT MOST 1048576: true; the input reads as it did. -/
def fnExactQuotientIntervalUptoRow : OpenClaim := { program := "ytpebjphejpakpaa", sum := "5334a5e5d3d09935053c3bf04029b5fdfc125453cf6ad4ac60e2bee57b2c84ae", func := "loop.example/g00915/laws.FnExactQuotientInterval", spec := "fnExactQuotientInterval", apart := false, narrowed := true }
def FnExactQuotientIntervalUptoSaid : Prop := fnExactQuotientIntervalUptoRow.holds Try.pinned (OpenSpec.upto fnExactQuotientIntervalSpec)

/-- 'laws.FnExactRatioBounds', WHERE WHAT IT READS IS OF BULK AT MOST 1048576: true; the input reads as it did. -/
def fnExactRatioBoundsUptoRow : OpenClaim := { program := "ytpebjphejpakpaa", sum := "5334a5e5d3d09935053c3bf04029b5fdfc125453cf6ad4ac60e2bee57b2c84ae", func := "loop.example/g00915/laws.FnExactRatioBounds", spec := "fnExactRatioBounds", apart := false, narrowed := true }
def FnExactRatioBoundsUptoSaid : Prop := fnExactRatioBoundsUptoRow.holds Try.pinned (OpenSpec.upto fnExactRatioBoundsSpec)

/-- 'laws.FnExactFanOf', WHERE WHAT IT READS IS OF BULK AT MOST 1048576: true; the input reads as it did. -/
def fnExactFanOfUptoRow : OpenClaim := { program := "ytpebjphejpakpaa", sum := "5334a5e5d3d09935053c3bf04029b5fdfc125453cf6ad4ac60e2bee57b2c84ae", func := "loop.example/g00915/laws.FnExactFanOf", spec := "fnExactFanOf", apart := false, narrowed := true }
def FnExactFanOfUptoSaid : Prop := fnExactFanOfUptoRow.holds Try.pinned (OpenSpec.upto fnExactFanOfSpec)

end Rows
end Go.Proofs.Ytpebjphejpakpaa
