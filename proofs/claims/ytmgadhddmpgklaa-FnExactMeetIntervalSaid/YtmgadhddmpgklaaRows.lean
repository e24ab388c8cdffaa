/-
  No cell of these rows narrows 'for every input' (looked for: loops, veiled, ifaces, maps, wideKeys, modest, calm, conditions, laid).
  DERIVED. THE GIVEN ROWS OF THIS SEAT. 12 by the template 'for every input the law returns true; each argument reads behind the call as it read before'; 0 by the template 'total and deterministic' (their statements: YtmgadhddmpgklaaTotals.lean).
  GIVEN WITH THE SEED: the statements are not yours to turn. If you find one false, say at which input.
  Laid BY PROGRAM, IN A SANDBOX (cutbox-rows.mjs): the forced cells as the released guide's own fill.sh prints them over the translation 2934513a64a4fca1… (all of the seat's roots in one cut). By AI agents, Wed Nov 11 2026. No macro, syntax, notation, axiom, sorry.
-/
import Derived.Test.YtmgadhddmpgklaaChecked
import GoSem.Claim
import GoSem.ClaimJoined
import GoSem.ClaimMapViews
import Derived.JoinedTies
import Derived.KernelRfl
namespace Go.Proofs.Ytmgadhddmpgklaa
/- THE CELL 'sum', in the pinned program and in every row, IS THE sha256 OF THE DUMP (.gsa) THAT YtmgadhddmpgklaaProg.lean LOADS. Nothing in Lean hashes anything: it is a label: what it is worth is what the hold of that sum in a sandbox is worth. -/
noncomputable def Try.pinned : Pinned := { name := "ytmgadhddmpgklaa", sum := "2934513a64a4fca142c993acd0ba4485c1f74b9808f85b84053ff774705f8528", checked := Try.checked }
namespace Rows
def none {H : Type} : Left H := { results := [], args := [] }

/-- 'laws.FnExactConstants': WHATEVER THE INPUT: true; the input reads as it did. -/
def fnExactConstantsSpec : ChangeSpec := { name := "fnExactConstants", fn := fun _ => fun
  | [] => { results := [.lit (.bool true)], args := [] }
  | _ => none }
def fnExactConstantsRow : OpenClaim := { program := "ytmgadhddmpgklaa", sum := "2934513a64a4fca142c993acd0ba4485c1f74b9808f85b84053ff774705f8528", func := "loop.example/g00915/laws.FnExactConstants", spec := "fnExactConstants", apart := false }
def FnExactConstantsSaid : Prop := fnExactConstantsRow.holds Try.pinned (OpenSpec.ofChange fnExactConstantsSpec)

/-- ITS FALSE NEIGHBOUR: 'it returns false'. Refute it at one input. -/
def fnExactConstantsWrong : ChangeSpec := { name := "fnExactConstants", fn := fun _ => fun
  | [] => { results := [.lit (.bool false)], args := [] }
  | _ => none }
def FnExactConstantsWrongFalsely : Prop := fnExactConstantsRow.holds Try.pinned (OpenSpec.ofChange fnExactConstantsWrong)

/-- 'laws.FnExactIsFan': WHATEVER THE INPUT: true; the input reads as it did. -/
def fnExactIsFanSpec : ChangeSpec := { name := "fnExactIsFan", fn := fun _ => fun
  | [d1, d2, d3] => { results := [.lit (.bool true)], args := [d1, d2, d3] }
  | _ => none }
def fnExactIsFanRow : OpenClaim := { program := "ytmgadhddmpgklaa", sum := "2934513a64a4fca142c993acd0ba4485c1f74b9808f85b84053ff774705f8528", func := "loop.example/g00915/laws.FnExactIsFan", spec := "fnExactIsFan", apart := false }
def FnExactIsFanSaid : Prop := fnExactIsFanRow.holds Try.pinned (OpenSpec.ofChange fnExactIsFanSpec)

/-- ITS FALSE NEIGHBOUR: 'it returns false'. Refute it at one input. -/
def fnExactIsFanWrong : ChangeSpec := { name := "fnExactIsFan", fn := fun _ => fun
  | [d1, d2, d3] => { results := [.lit (.bool false)], args := [d1, d2, d3] }
  | _ => none }
def FnExactIsFanWrongFalsely : Prop := fnExactIsFanRow.holds Try.pinned (OpenSpec.ofChange fnExactIsFanWrong)

/-- 'laws.FnExactIsInterval': WHATEVER THE INPUT: true; the input reads as it did. -/
def fnExactIsIntervalSpec : ChangeSpec := { name := "fnExactIsInterval", fn := fun _ => fun
  | [d] => { results := [.lit (.bool true)], args := [d] }
  | _ => none }
def fnExactIsIntervalRow : OpenClaim := { program := "ytmgadhddmpgklaa", sum := "2934513a64a4fca142c993acd0ba4485c1f74b9808f85b84053ff774705f8528", func := "loop.example/g00915/laws.FnExactIsInterval", spec := "fnExactIsInterval", apart := false }
def FnExactIsIntervalSaid : Prop := fnExactIsIntervalRow.holds Try.pinned (OpenSpec.ofChange fnExactIsIntervalSpec)

/-- ITS FALSE NEIGHBOUR: 'it returns false'. Refute it at one input. -/
def fnExactIsIntervalWrong : ChangeSpec := { name := "fnExactIsInterval", fn := fun _ => fun
  | [d] => { results := [.lit (.bool false)], args := [d] }
  | _ => none }
def FnExactIsIntervalWrongFalsely : Prop := fnExactIsIntervalRow.holds Try.pinned (OpenSpec.ofChange fnExactIsIntervalWrong)

/-- 'laws.FnExactHasNumber': WHATEVER THE INPUT: true; the input reads as it did. -/
def fnExactHasNumberSpec : ChangeSpec := { name := "fnExactHasNumber", fn := fun _ => fun
  | [d1, d2] => { results := [.lit (.bool true)], args := [d1, d2] }
  | _ => none }
def fnExactHasNumberRow : OpenClaim := { program := "ytmgadhddmpgklaa", sum := "2934513a64a4fca142c993acd0ba4485c1f74b9808f85b84053ff774705f8528", func := "loop.example/g00915/laws.FnExactHasNumber", spec := "fnExactHasNumber", apart := false }
def FnExactHasNumberSaid : Prop := fnExactHasNumberRow.holds Try.pinned (OpenSpec.ofChange fnExactHasNumberSpec)

/-- ITS FALSE NEIGHBOUR: 'it returns false'. Refute it at one input. -/
def fnExactHasNumberWrong : ChangeSpec := { name := "fnExactHasNumber", fn := fun _ => fun
  | [d1, d2] => { results := [.lit (.bool false)], args := [d1, d2] }
  | _ => none }
def FnExactHasNumberWrongFalsely : Prop := fnExactHasNumberRow.holds Try.pinned (OpenSpec.ofChange fnExactHasNumberWrong)

/-- 'laws.FnExactIsRatio': WHATEVER THE INPUT: true; the input reads as it did. -/
def fnExactIsRatioSpec : ChangeSpec := { name := "fnExactIsRatio", fn := fun _ => fun
  | [d] => { results := [.lit (.bool true)], args := [d] }
  | _ => none }
def fnExactIsRatioRow : OpenClaim := { program := "ytmgadhddmpgklaa", sum := "2934513a64a4fca142c993acd0ba4485c1f74b9808f85b84053ff774705f8528", func := "loop.example/g00915/laws.FnExactIsRatio", spec := "fnExactIsRatio", apart := false }
def FnExactIsRatioSaid : Prop := fnExactIsRatioRow.holds Try.pinned (OpenSpec.ofChange fnExactIsRatioSpec)

/-- ITS FALSE NEIGHBOUR: 'it returns false'. Refute it at one input. -/
def fnExactIsRatioWrong : ChangeSpec := { name := "fnExactIsRatio", fn := fun _ => fun
  | [d] => { results := [.lit (.bool false)], args := [d] }
  | _ => none }
def FnExactIsRatioWrongFalsely : Prop := fnExactIsRatioRow.holds Try.pinned (OpenSpec.ofChange fnExactIsRatioWrong)

/-- 'laws.FnExactIsDirection': WHATEVER THE INPUT: true; the input reads as it did. -/
def fnExactIsDirectionSpec : ChangeSpec := { name := "fnExactIsDirection", fn := fun _ => fun
  | [d] => { results := [.lit (.bool true)], args := [d] }
  | _ => none }
def fnExactIsDirectionRow : OpenClaim := { program := "ytmgadhddmpgklaa", sum := "2934513a64a4fca142c993acd0ba4485c1f74b9808f85b84053ff774705f8528", func := "loop.example/g00915/laws.FnExactIsDirection", spec := "fnExactIsDirection", apart := false }
def FnExactIsDirectionSaid : Prop := fnExactIsDirectionRow.holds Try.pinned (OpenSpec.ofChange fnExactIsDirectionSpec)

/-- ITS FALSE NEIGHBOUR: 'it returns false'. Refute it at one input. -/
def fnExactIsDirectionWrong : ChangeSpec := { name := "fnExactIsDirection", fn := fun _ => fun
  | [d] => { results := [.lit (.bool false)], args := [d] }
  | _ => none }
def FnExactIsDirectionWrongFalsely : Prop := fnExactIsDirectionRow.holds Try.pinned (OpenSpec.ofChange fnExactIsDirectionWrong)

/-- 'laws.FnExactCommonDivisor': WHATEVER THE INPUT: true; the input reads as it did. -/
def fnExactCommonDivisorSpec : ChangeSpec := { name := "fnExactCommonDivisor", fn := fun _ => fun
  | [d1, d2] => { results := [.lit (.bool true)], args := [d1, d2] }
  | _ => none }
def fnExactCommonDivisorRow : OpenClaim := { program := "ytmgadhddmpgklaa", sum := "2934513a64a4fca142c993acd0ba4485c1f74b9808f85b84053ff774705f8528", func := "loop.example/g00915/laws.FnExactCommonDivisor", spec := "fnExactCommonDivisor", apart := false }
def FnExactCommonDivisorSaid : Prop := fnExactCommonDivisorRow.holds Try.pinned (OpenSpec.ofChange fnExactCommonDivisorSpec)

/-- ITS FALSE NEIGHBOUR: 'it returns false'. Refute it at one input. -/
def fnExactCommonDivisorWrong : ChangeSpec := { name := "fnExactCommonDivisor", fn := fun _ => fun
  | [d1, d2] => { results := [.lit (.bool false)], args := [d1, d2] }
  | _ => none }
def FnExactCommonDivisorWrongFalsely : Prop := fnExactCommonDivisorRow.holds Try.pinned (OpenSpec.ofChange fnExactCommonDivisorWrong)

/-- 'laws.FnExactIsRising': WHATEVER THE INPUT: true; the input reads as it did. -/
def fnExactIsRisingSpec : ChangeSpec := { name := "fnExactIsRising", fn := fun _ => fun
  | [d1, d2] => { results := [.lit (.bool true)], args := [d1, d2] }
  | _ => none }
def fnExactIsRisingRow : OpenClaim := { program := "ytmgadhddmpgklaa", sum := "2934513a64a4fca142c993acd0ba4485c1f74b9808f85b84053ff774705f8528", func := "loop.example/g00915/laws.FnExactIsRising", spec := "fnExactIsRising", apart := false }
def FnExactIsRisingSaid : Prop := fnExactIsRisingRow.holds Try.pinned (OpenSpec.ofChange fnExactIsRisingSpec)

/-- ITS FALSE NEIGHBOUR: 'it returns false'. Refute it at one input. -/
def fnExactIsRisingWrong : ChangeSpec := { name := "fnExactIsRising", fn := fun _ => fun
  | [d1, d2] => { results := [.lit (.bool false)], args := [d1, d2] }
  | _ => none }
def FnExactIsRisingWrongFalsely : Prop := fnExactIsRisingRow.holds Try.pinned (OpenSpec.ofChange fnExactIsRisingWrong)

/-- 'laws.FnExactIsSignal': WHATEVER THE INPUT: true; the input reads as it did. -/
def fnExactIsSignalSpec : ChangeSpec := { name := "fnExactIsSignal", fn := fun _ => fun
  | [d] => { results := [.lit (.bool true)], args := [d] }
  | _ => none }
def fnExactIsSignalRow : OpenClaim := { program := "ytmgadhddmpgklaa", sum := "2934513a64a4fca142c993acd0ba4485c1f74b9808f85b84053ff774705f8528", func := "loop.example/g00915/laws.FnExactIsSignal", spec := "fnExactIsSignal", apart := false }
def FnExactIsSignalSaid : Prop := fnExactIsSignalRow.holds Try.pinned (OpenSpec.ofChange fnExactIsSignalSpec)

/-- ITS FALSE NEIGHBOUR: 'it returns false'. Refute it at one input. -/
def fnExactIsSignalWrong : ChangeSpec := { name := "fnExactIsSignal", fn := fun _ => fun
  | [d] => { results := [.lit (.bool false)], args := [d] }
  | _ => none }
def FnExactIsSignalWrongFalsely : Prop := fnExactIsSignalRow.holds Try.pinned (OpenSpec.ofChange fnExactIsSignalWrong)

/-- 'laws.FnExactMeetInterval': WHATEVER THE INPUT: true; the input reads as it did. -/
def fnExactMeetIntervalSpec : ChangeSpec := { name := "fnExactMeetInterval", fn := fun _ => fun
  | [d1, d2] => { results := [.lit (.bool true)], args := [d1, d2] }
  | _ => none }
def fnExactMeetIntervalRow : OpenClaim := { program := "ytmgadhddmpgklaa", sum := "2934513a64a4fca142c993acd0ba4485c1f74b9808f85b84053ff774705f8528", func := "loop.example/g00915/laws.FnExactMeetInterval", spec := "fnExactMeetInterval", apart := false }
def FnExactMeetIntervalSaid : Prop := fnExactMeetIntervalRow.holds Try.pinned (OpenSpec.ofChange fnExactMeetIntervalSpec)

/-- ITS FALSE NEIGHBOUR: 'it returns false'. Refute it at one input. -/
def fnExactMeetIntervalWrong : ChangeSpec := { name := "fnExactMeetInterval", fn := fun _ => fun
  | [d1, d2] => { results := [.lit (.bool false)], args := [d1, d2] }
  | _ => none }
def FnExactMeetIntervalWrongFalsely : Prop := fnExactMeetIntervalRow.holds Try.pinned (OpenSpec.ofChange fnExactMeetIntervalWrong)

/-- 'laws.FnExactQuotientBounds': WHATEVER THE INPUT: true; the input reads as it did. -/
def fnExactQuotientBoundsSpec : ChangeSpec := { name := "fnExactQuotientBounds", fn := fun _ => fun
  | [d1, d2] => { results := [.lit (.bool true)], args := [d1, d2] }
  | _ => none }
def fnExactQuotientBoundsRow : OpenClaim := { program := "ytmgadhddmpgklaa", sum := "2934513a64a4fca142c993acd0ba4485c1f74b9808f85b84053ff774705f8528", func := "loop.example/g00915/laws.FnExactQuotientBounds", spec := "fnExactQuotientBounds", apart := false }
def FnExactQuotientBoundsSaid : Prop := fnExactQuotientBoundsRow.holds Try.pinned (OpenSpec.ofChange fnExactQuotientBoundsSpec)

/-- ITS FALSE NEIGHBOUR: 'it returns false'. Refute it at one input. -/
def fnExactQuotientBoundsWrong : ChangeSpec := { name := "fnExactQuotientBounds", fn := fun _ => fun
  | [d1, d2] => { results := [.lit (.bool false)], args := [d1, d2] }
  | _ => none }
def FnExactQuotientBoundsWrongFalsely : Prop := fnExactQuotientBoundsRow.holds Try.pinned (OpenSpec.ofChange fnExactQuotientBoundsWrong)

/-- 'laws.FnExactRootBounds': WHATEVER THE INPUT: true; the input reads as it did. -/
def fnExactRootBoundsSpec : ChangeSpec := { name := "fnExactRootBounds", fn := fun _ => fun
  | [d] => { results := [.lit (.bool true)], args := [d] }
  | _ => none }
def fnExactRootBoundsRow : OpenClaim := { program := "ytmgadhddmpgklaa", sum := "2934513a64a4fca142c993acd0ba4485c1f74b9808f85b84053ff774705f8528", func := "loop.example/g00915/laws.FnExactRootBounds", spec := "fnExactRootBounds", apart := false }
def FnExactRootBoundsSaid : Prop := fnExactRootBoundsRow.holds Try.pinned (OpenSpec.ofChange fnExactRootBoundsSpec)

/-- ITS FALSE NEIGHBOUR: 'it returns false'. Refute it at one input. -/
def fnExactRootBoundsWrong : ChangeSpec := { name := "fnExactRootBounds", fn := fun _ => fun
  | [d] => { results := [.lit (.bool false)], args := [d] }
  | _ => none }
def FnExactRootBoundsWrongFalsely : Prop := fnExactRootBoundsRow.holds Try.pinned (OpenSpec.ofChange fnExactRootBoundsWrong)

/- THE SECOND FORM. 'bulk': how many values and letters a reading holds, each counted each time it is reached (what is shared counts as often as it is met; a slice's spare places count too). A statement '..UptoSaid' is the law's where the arguments, and the package variables that the reading takes, are together of bulk at most 1048576: NARROWER than '..Said'. Prove '..Said' where nothing that the law and all that it calls make is longer than what came in: it says more and counts as full. Else prove '..UptoSaid'. A law counts once. -/
mutual
def uptoBulk {H : Type} : DataW H → Nat
  | .lit (.string bytes) => bytes.length + 1
  | .lit _ => 1
  | .nil => 1
  | .ptr d => uptoBulk d + 1
  | .slice elems spare => uptoBulkAll elems + uptoBulkAll spare + 1
  | .agg parts => uptoBulkAll parts + 1
  | .iface _ d => uptoBulk d + 1
  | .map entries => uptoBulkEntries entries + 1
  | .held _ => 1
def uptoBulkAll {H : Type} : List (DataW H) → Nat
  | [] => 0
  | d :: r => uptoBulk d + uptoBulkAll r
def uptoBulkEntries {H : Type} : List (Lit × DataW H) → Nat
  | [] => 0
  | x :: r => uptoBulkEntry x + uptoBulkEntries r
def uptoBulkEntry {H : Type} : Lit × DataW H → Nat
  | (.string bytes, d) => bytes.length + uptoBulk d + 1
  | (_, d) => uptoBulk d + 1
 end
def uptoSmall : (H : Type) → List (DataW H) → Bool := fun _ ds => decide (uptoBulkAll ds ≤ 1048576)
def OpenSpec.upto (s : _root_.Go.ChangeSpec) : _root_.Go.OpenSpec := { _root_.Go.OpenSpec.ofChange s with cond := some uptoSmall }

/-- 'laws.FnExactConstants', WHERE WHAT IT READS IS OF BULK AT MOST 1048576: true; the input reads as it did. -/
def fnExactConstantsUptoRow : OpenClaim := { program := "ytmgadhddmpgklaa", sum := "2934513a64a4fca142c993acd0ba4485c1f74b9808f85b84053ff774705f8528", func := "loop.example/g00915/laws.FnExactConstants", spec := "fnExactConstants", apart := false, narrowed := true }
def FnExactConstantsUptoSaid : Prop := fnExactConstantsUptoRow.holds Try.pinned (OpenSpec.upto fnExactConstantsSpec)

/-- 'laws.FnExactIsFan', WHERE WHAT IT READS IS OF BULK AT MOST 1048576: true; the input reads as it did. -/
def fnExactIsFanUptoRow : OpenClaim := { program := "ytmgadhddmpgklaa", sum := "2934513a64a4fca142c993acd0ba4485c1f74b9808f85b84053ff774705f8528", func := "loop.example/g00915/laws.FnExactIsFan", spec := "fnExactIsFan", apart := false, narrowed := true }
def FnExactIsFanUptoSaid : Prop := fnExactIsFanUptoRow.holds Try.pinned (OpenSpec.upto fnExactIsFanSpec)

/-- 'laws.FnExactIsInterval', WHERE WHAT IT READS IS OF BULK AT MOST 1048576: true; the input reads as it did. -/
def fnExactIsIntervalUptoRow : OpenClaim := { program := "ytmgadhddmpgklaa", sum := "2934513a64a4fca142c993acd0ba4485c1f74b9808f85b84053ff774705f8528", func := "loop.example/g00915/laws.FnExactIsInterval", spec := "fnExactIsInterval", apart := false, narrowed := true }
def FnExactIsIntervalUptoSaid : Prop := fnExactIsIntervalUptoRow.holds Try.pinned (OpenSpec.upto fnExactIsIntervalSpec)

/-- 'laws.FnExactHasNumber', WHERE WHAT IT READS IS OF BULK AT MOST 1048576: true; the input reads as it did. -/
def fnExactHasNumberUptoRow : OpenClaim := { program := "ytmgadhddmpgklaa", sum := "2934513a64a4fca142c993acd0ba4485c1f74b9808f85b84053ff774705f8528", func := "loop.example/g00915/laws.FnExactHasNumber", spec := "fnExactHasNumber", apart := false, narrowed := true }
def FnExactHasNumberUptoSaid : Prop := fnExactHasNumberUptoRow.holds Try.pinned (OpenSpec.upto fnExactHasNumberSpec)

/-- 'laws.FnExactIsRatio', WHERE WHAT IT READS IS OF BULK AT MOST 1048576: true; the input reads as it did. -/
def fnExactIsRatioUptoRow : OpenClaim := { program := "ytmgadhddmpgklaa", sum := "2934513a64a4fca142c993acd0ba4485c1f74b9808f85b84053ff774705f8528", func := "loop.example/g00915/laws.FnExactIsRatio", spec := "fnExactIsRatio", apart := false, narrowed := true }
def FnExactIsRatioUptoSaid : Prop := fnExactIsRatioUptoRow.holds Try.pinned (OpenSpec.upto fnExactIsRatioSpec)

/-- 'laws.FnExactIsDirection', WHERE WHAT IT READS IS OF BULK AT MOST 1048576: true; the input reads as it did. -/
def fnExactIsDirectionUptoRow : OpenClaim := { program := "ytmgadhddmpgklaa", sum := "2934513a64a4fca142c993acd0ba4485c1f74b9808f85b84053ff774705f8528", func := "loop.example/g00915/laws.FnExactIsDirection", spec := "fnExactIsDirection", apart := false, narrowed := true }
def FnExactIsDirectionUptoSaid : Prop := fnExactIsDirectionUptoRow.holds Try.pinned (OpenSpec.upto fnExactIsDirectionSpec)

/-- 'laws.FnExactCommonDivisor', WHERE WHAT IT READS IS OF BULK AT MOST 1048576: true; the input reads as it did. -/
def fnExactCommonDivisorUptoRow : OpenClaim := { program := "ytmgadhddmpgklaa", sum := "2934513a64a4fca142c993acd0ba4485c1f74b9808f85b84053ff774705f8528", func := "loop.example/g00915/laws.FnExactCommonDivisor", spec := "fnExactCommonDivisor", apart := false, narrowed := true }
def FnExactCommonDivisorUptoSaid : Prop := fnExactCommonDivisorUptoRow.holds Try.pinned (OpenSpec.upto fnExactCommonDivisorSpec)

/-- 'laws.FnExactIsRising', WHERE WHAT IT READS IS OF BULK AT MOST 1048576: true; the input reads as it did. -/
def fnExactIsRisingUptoRow : OpenClaim := { program := "ytmgadhddmpgklaa", sum := "2934513a64a4fca142c993acd0ba4485c1f74b9808f85b84053ff774705f8528", func := "loop.example/g00915/laws.FnExactIsRising", spec := "fnExactIsRising", apart := false, narrowed := true }
def FnExactIsRisingUptoSaid : Prop := fnExactIsRisingUptoRow.holds Try.pinned (OpenSpec.upto fnExactIsRisingSpec)

/-- 'laws.FnExactIsSignal', WHERE WHAT IT READS IS OF BULK AT MOST 1048576: true; the input reads as it did. -/
def fnExactIsSignalUptoRow : OpenClaim := { program := "ytmgadhddmpgklaa", sum := "2934513a64a4fca142c993acd0ba4485c1f74b9808f85b84053ff774705f8528", func := "loop.example/g00915/laws.FnExactIsSignal", spec := "fnExactIsSignal", apart := false, narrowed := true }
def FnExactIsSignalUptoSaid : Prop := fnExactIsSignalUptoRow.holds Try.pinned (OpenSpec.upto fnExactIsSignalSpec)

/-- 'laws.FnExactMeetInterval', WHERE WHAT IT READS IS OF BULK AT MOST 1048576: true; the input reads as it did. -/
def fnExactMeetIntervalUptoRow : OpenClaim := { program := "ytmgadhddmpgklaa", sum := "2934513a64a4fca142c993acd0ba4485c1f74b9808f85b84053ff774705f8528", func := "loop.example/g00915/laws.FnExactMeetInterval", spec := "fnExactMeetInterval", apart := false, narrowed := true }
def FnExactMeetIntervalUptoSaid : Prop := fnExactMeetIntervalUptoRow.holds Try.pinned (OpenSpec.upto fnExactMeetIntervalSpec)

/-- 'laws.FnExactQuotientBounds', WHERE WHAT IT READS IS OF BULK AT MOST 1048576: true; the input reads as it did. -/
def fnExactQuotientBoundsUptoRow : OpenClaim := { program := "ytmgadhddmpgklaa", sum := "2934513a64a4fca142c993acd0ba4485c1f74b9808f85b84053ff774705f8528", func := "loop.example/g00915/laws.FnExactQuotientBounds", spec := "fnExactQuotientBounds", apart := false, narrowed := true }
def FnExactQuotientBoundsUptoSaid : Prop := fnExactQuotientBoundsUptoRow.holds Try.pinned (OpenSpec.upto fnExactQuotientBoundsSpec)

/-- 'laws.FnExactRootBounds', WHERE WHAT IT READS IS OF BULK AT MOST 1048576: true; the input reads as it did. -/
def fnExactRootBoundsUptoRow : OpenClaim := { program := "ytmgadhddmpgklaa", sum := "2934513a64a4fca142c993acd0ba4485c1f74b9808f85b84053ff774705f8528", func := "loop.example/g00915/laws.FnExactRootBounds", spec := "fnExactRootBounds", apart := false, narrowed := true }
def FnExactRootBoundsUptoSaid : Prop := fnExactRootBoundsUptoRow.holds Try.pinned (OpenSpec.upto fnExactRootBoundsSpec)

end Rows
end Go.Proofs.Ytmgadhddmpgklaa
