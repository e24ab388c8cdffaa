/-
  No cell of these rows narrows 'for every input' (looked for: loops, veiled, ifaces, maps, wideKeys, modest, calm, conditions, laid).
  DERIVED. THE GIVEN ROWS OF THIS SEAT. 12 by the template 'for every input the law returns true; each argument reads behind the call as it read before'; 0 by the template 'total and deterministic' (their statements: YtnanahdhejiniaaTotals.lean).
  GIVEN WITH THE SEED: the statements are not yours to turn. If you find one false, say at which input.
  Laid BY PROGRAM, IN A SANDBOX (cutbox-rows.mjs): the forced cells as the released guide's own fill.sh prints them over the translation 95c6f917082fddcd… (all of the seat's roots in one cut). By AI agents, Wed Nov 11 2026. No macro, syntax, notation, axiom, sorry.
-/
import Derived.Test.YtnanahdhejiniaaChecked
import GoSem.Claim
import GoSem.ClaimJoined
import GoSem.ClaimMapViews
import Derived.JoinedTies
import Derived.KernelRfl
namespace Go.Proofs.Ytnanahdhejiniaa
/- THE CELL 'sum', in the pinned program and in every row, IS THE sha256 OF THE DUMP (.gsa) THAT YtnanahdhejiniaaProg.lean LOADS. Nothing in Lean hashes anything: it is a label: what it is worth is what the hold of that sum in a sandbox is worth. -/
noncomputable def Try.pinned : Pinned := { name := "ytnanahdhejiniaa", sum := "95c6f917082fddcd54276b5616f95096e09674db5597f665d1973176e8276545", checked := Try.checked }
namespace Rows
def none {H : Type} : Left H := { results := [], args := [] }

/-- 'laws.FnDivisors': WHATEVER THE INPUT: true; the input reads as it did. -/
def fnDivisorsSpec : ChangeSpec := { name := "fnDivisors", fn := fun _ => fun
  | [d] => { results := [.lit (.bool true)], args := [d] }
  | _ => none }
def fnDivisorsRow : OpenClaim := { program := "ytnanahdhejiniaa", sum := "95c6f917082fddcd54276b5616f95096e09674db5597f665d1973176e8276545", func := "loop.example/g00915/laws.FnDivisors", spec := "fnDivisors", apart := false }
def FnDivisorsSaid : Prop := fnDivisorsRow.holds Try.pinned (OpenSpec.ofChange fnDivisorsSpec)

/-- ITS FALSE NEIGHBOUR: 'it returns false'. Refute it at one input. -/
def fnDivisorsWrong : ChangeSpec := { name := "fnDivisors", fn := fun _ => fun
  | [d] => { results := [.lit (.bool false)], args := [d] }
  | _ => none }
def FnDivisorsWrongFalsely : Prop := fnDivisorsRow.holds Try.pinned (OpenSpec.ofChange fnDivisorsWrong)

/-- 'laws.FnIntervalSets': WHATEVER THE INPUT: true; the input reads as it did. -/
def fnIntervalSetsSpec : ChangeSpec := { name := "fnIntervalSets", fn := fun _ => fun
  | [d] => { results := [.lit (.bool true)], args := [d] }
  | _ => none }
def fnIntervalSetsRow : OpenClaim := { program := "ytnanahdhejiniaa", sum := "95c6f917082fddcd54276b5616f95096e09674db5597f665d1973176e8276545", func := "loop.example/g00915/laws.FnIntervalSets", spec := "fnIntervalSets", apart := false }
def FnIntervalSetsSaid : Prop := fnIntervalSetsRow.holds Try.pinned (OpenSpec.ofChange fnIntervalSetsSpec)

/-- ITS FALSE NEIGHBOUR: 'it returns false'. Refute it at one input. -/
def fnIntervalSetsWrong : ChangeSpec := { name := "fnIntervalSets", fn := fun _ => fun
  | [d] => { results := [.lit (.bool false)], args := [d] }
  | _ => none }
def FnIntervalSetsWrongFalsely : Prop := fnIntervalSetsRow.holds Try.pinned (OpenSpec.ofChange fnIntervalSetsWrong)

/-- 'laws.FnQuotients': WHATEVER THE INPUT: true; the input reads as it did. -/
def fnQuotientsSpec : ChangeSpec := { name := "fnQuotients", fn := fun _ => fun
  | [d] => { results := [.lit (.bool true)], args := [d] }
  | _ => none }
def fnQuotientsRow : OpenClaim := { program := "ytnanahdhejiniaa", sum := "95c6f917082fddcd54276b5616f95096e09674db5597f665d1973176e8276545", func := "loop.example/g00915/laws.FnQuotients", spec := "fnQuotients", apart := false }
def FnQuotientsSaid : Prop := fnQuotientsRow.holds Try.pinned (OpenSpec.ofChange fnQuotientsSpec)

/-- ITS FALSE NEIGHBOUR: 'it returns false'. Refute it at one input. -/
def fnQuotientsWrong : ChangeSpec := { name := "fnQuotients", fn := fun _ => fun
  | [d] => { results := [.lit (.bool false)], args := [d] }
  | _ => none }
def FnQuotientsWrongFalsely : Prop := fnQuotientsRow.holds Try.pinned (OpenSpec.ofChange fnQuotientsWrong)

/-- 'laws.FnRatioSums': WHATEVER THE INPUT: true; the input reads as it did. -/
def fnRatioSumsSpec : ChangeSpec := { name := "fnRatioSums", fn := fun _ => fun
  | [d] => { results := [.lit (.bool true)], args := [d] }
  | _ => none }
def fnRatioSumsRow : OpenClaim := { program := "ytnanahdhejiniaa", sum := "95c6f917082fddcd54276b5616f95096e09674db5597f665d1973176e8276545", func := "loop.example/g00915/laws.FnRatioSums", spec := "fnRatioSums", apart := false }
def FnRatioSumsSaid : Prop := fnRatioSumsRow.holds Try.pinned (OpenSpec.ofChange fnRatioSumsSpec)

/-- ITS FALSE NEIGHBOUR: 'it returns false'. Refute it at one input. -/
def fnRatioSumsWrong : ChangeSpec := { name := "fnRatioSums", fn := fun _ => fun
  | [d] => { results := [.lit (.bool false)], args := [d] }
  | _ => none }
def FnRatioSumsWrongFalsely : Prop := fnRatioSumsRow.holds Try.pinned (OpenSpec.ofChange fnRatioSumsWrong)

/-- 'laws.FnScales': WHATEVER THE INPUT: true; the input reads as it did. -/
def fnScalesSpec : ChangeSpec := { name := "fnScales", fn := fun _ => fun
  | [d] => { results := [.lit (.bool true)], args := [d] }
  | _ => none }
def fnScalesRow : OpenClaim := { program := "ytnanahdhejiniaa", sum := "95c6f917082fddcd54276b5616f95096e09674db5597f665d1973176e8276545", func := "loop.example/g00915/laws.FnScales", spec := "fnScales", apart := false }
def FnScalesSaid : Prop := fnScalesRow.holds Try.pinned (OpenSpec.ofChange fnScalesSpec)

/-- ITS FALSE NEIGHBOUR: 'it returns false'. Refute it at one input. -/
def fnScalesWrong : ChangeSpec := { name := "fnScales", fn := fun _ => fun
  | [d] => { results := [.lit (.bool false)], args := [d] }
  | _ => none }
def FnScalesWrongFalsely : Prop := fnScalesRow.holds Try.pinned (OpenSpec.ofChange fnScalesWrong)

/-- 'laws.FnDirections': WHATEVER THE INPUT: true; the input reads as it did. -/
def fnDirectionsSpec : ChangeSpec := { name := "fnDirections", fn := fun _ => fun
  | [d] => { results := [.lit (.bool true)], args := [d] }
  | _ => none }
def fnDirectionsRow : OpenClaim := { program := "ytnanahdhejiniaa", sum := "95c6f917082fddcd54276b5616f95096e09674db5597f665d1973176e8276545", func := "loop.example/g00915/laws.FnDirections", spec := "fnDirections", apart := false }
def FnDirectionsSaid : Prop := fnDirectionsRow.holds Try.pinned (OpenSpec.ofChange fnDirectionsSpec)

/-- ITS FALSE NEIGHBOUR: 'it returns false'. Refute it at one input. -/
def fnDirectionsWrong : ChangeSpec := { name := "fnDirections", fn := fun _ => fun
  | [d] => { results := [.lit (.bool false)], args := [d] }
  | _ => none }
def FnDirectionsWrongFalsely : Prop := fnDirectionsRow.holds Try.pinned (OpenSpec.ofChange fnDirectionsWrong)

/-- 'laws.FnRatios': WHATEVER THE INPUT: true; the input reads as it did. -/
def fnRatiosSpec : ChangeSpec := { name := "fnRatios", fn := fun _ => fun
  | [d] => { results := [.lit (.bool true)], args := [d] }
  | _ => none }
def fnRatiosRow : OpenClaim := { program := "ytnanahdhejiniaa", sum := "95c6f917082fddcd54276b5616f95096e09674db5597f665d1973176e8276545", func := "loop.example/g00915/laws.FnRatios", spec := "fnRatios", apart := false }
def FnRatiosSaid : Prop := fnRatiosRow.holds Try.pinned (OpenSpec.ofChange fnRatiosSpec)

/-- ITS FALSE NEIGHBOUR: 'it returns false'. Refute it at one input. -/
def fnRatiosWrong : ChangeSpec := { name := "fnRatios", fn := fun _ => fun
  | [d] => { results := [.lit (.bool false)], args := [d] }
  | _ => none }
def FnRatiosWrongFalsely : Prop := fnRatiosRow.holds Try.pinned (OpenSpec.ofChange fnRatiosWrong)

/-- 'laws.FnMediants': WHATEVER THE INPUT: true; the input reads as it did. -/
def fnMediantsSpec : ChangeSpec := { name := "fnMediants", fn := fun _ => fun
  | [d] => { results := [.lit (.bool true)], args := [d] }
  | _ => none }
def fnMediantsRow : OpenClaim := { program := "ytnanahdhejiniaa", sum := "95c6f917082fddcd54276b5616f95096e09674db5597f665d1973176e8276545", func := "loop.example/g00915/laws.FnMediants", spec := "fnMediants", apart := false }
def FnMediantsSaid : Prop := fnMediantsRow.holds Try.pinned (OpenSpec.ofChange fnMediantsSpec)

/-- ITS FALSE NEIGHBOUR: 'it returns false'. Refute it at one input. -/
def fnMediantsWrong : ChangeSpec := { name := "fnMediants", fn := fun _ => fun
  | [d] => { results := [.lit (.bool false)], args := [d] }
  | _ => none }
def FnMediantsWrongFalsely : Prop := fnMediantsRow.holds Try.pinned (OpenSpec.ofChange fnMediantsWrong)

/-- 'laws.FnIntervalSums': WHATEVER THE INPUT: true; the input reads as it did. -/
def fnIntervalSumsSpec : ChangeSpec := { name := "fnIntervalSums", fn := fun _ => fun
  | [d] => { results := [.lit (.bool true)], args := [d] }
  | _ => none }
def fnIntervalSumsRow : OpenClaim := { program := "ytnanahdhejiniaa", sum := "95c6f917082fddcd54276b5616f95096e09674db5597f665d1973176e8276545", func := "loop.example/g00915/laws.FnIntervalSums", spec := "fnIntervalSums", apart := false }
def FnIntervalSumsSaid : Prop := fnIntervalSumsRow.holds Try.pinned (OpenSpec.ofChange fnIntervalSumsSpec)

/-- ITS FALSE NEIGHBOUR: 'it returns false'. Refute it at one input. -/
def fnIntervalSumsWrong : ChangeSpec := { name := "fnIntervalSums", fn := fun _ => fun
  | [d] => { results := [.lit (.bool false)], args := [d] }
  | _ => none }
def FnIntervalSumsWrongFalsely : Prop := fnIntervalSumsRow.holds Try.pinned (OpenSpec.ofChange fnIntervalSumsWrong)

/-- 'laws.FnFans': WHATEVER THE INPUT: true; the input reads as it did. -/
def fnFansSpec : ChangeSpec := { name := "fnFans", fn := fun _ => fun
  | [d] => { results := [.lit (.bool true)], args := [d] }
  | _ => none }
def fnFansRow : OpenClaim := { program := "ytnanahdhejiniaa", sum := "95c6f917082fddcd54276b5616f95096e09674db5597f665d1973176e8276545", func := "loop.example/g00915/laws.FnFans", spec := "fnFans", apart := false }
def FnFansSaid : Prop := fnFansRow.holds Try.pinned (OpenSpec.ofChange fnFansSpec)

/-- ITS FALSE NEIGHBOUR: 'it returns false'. Refute it at one input. -/
def fnFansWrong : ChangeSpec := { name := "fnFans", fn := fun _ => fun
  | [d] => { results := [.lit (.bool false)], args := [d] }
  | _ => none }
def FnFansWrongFalsely : Prop := fnFansRow.holds Try.pinned (OpenSpec.ofChange fnFansWrong)

/-- 'laws.FnProducts': WHATEVER THE INPUT: true; the input reads as it did. -/
def fnProductsSpec : ChangeSpec := { name := "fnProducts", fn := fun _ => fun
  | [d] => { results := [.lit (.bool true)], args := [d] }
  | _ => none }
def fnProductsRow : OpenClaim := { program := "ytnanahdhejiniaa", sum := "95c6f917082fddcd54276b5616f95096e09674db5597f665d1973176e8276545", func := "loop.example/g00915/laws.FnProducts", spec := "fnProducts", apart := false }
def FnProductsSaid : Prop := fnProductsRow.holds Try.pinned (OpenSpec.ofChange fnProductsSpec)

/-- ITS FALSE NEIGHBOUR: 'it returns false'. Refute it at one input. -/
def fnProductsWrong : ChangeSpec := { name := "fnProducts", fn := fun _ => fun
  | [d] => { results := [.lit (.bool false)], args := [d] }
  | _ => none }
def FnProductsWrongFalsely : Prop := fnProductsRow.holds Try.pinned (OpenSpec.ofChange fnProductsWrong)

/-- 'laws.FnMedians': WHATEVER THE INPUT: true; the input reads as it did. -/
def fnMediansSpec : ChangeSpec := { name := "fnMedians", fn := fun _ => fun
  | [d] => { results := [.lit (.bool true)], args := [d] }
  | _ => none }
def fnMediansRow : OpenClaim := { program := "ytnanahdhejiniaa", sum := "95c6f917082fddcd54276b5616f95096e09674db5597f665d1973176e8276545", func := "loop.example/g00915/laws.FnMedians", spec := "fnMedians", unfollowed := true, recurses := true, apart := false }
def FnMediansSaid : Prop := fnMediansRow.holds Try.pinned (OpenSpec.ofChange fnMediansSpec)

/-- ITS FALSE NEIGHBOUR: 'it returns false'. Refute it at one input. -/
def fnMediansWrong : ChangeSpec := { name := "fnMedians", fn := fun _ => fun
  | [d] => { results := [.lit (.bool false)], args := [d] }
  | _ => none }
def FnMediansWrongFalsely : Prop := fnMediansRow.holds Try.pinned (OpenSpec.ofChange fnMediansWrong)

/- THE SECOND FORM. 'bulk': how many values and letters a reading holds, each counted each time it is reached (what is shared counts as often as it is met; a slice's spare places count too). A statement '..UptoSaid' is the law's where the arguments, and the package variables that the reading takes, are together of bulk at most 1048576: NARROWER than '..Said'. Prove '..Said' where nothing that the law and all that it calls make is longer than what came in: it says more and counts as full. Else prove '..UptoSaid'. A law counts once. -/
mutual
def uptoBulk {H : Type} : DataW H → Nat
  | .lit (.string bytes) => bytes.length + 1
  | .lit _ => 1
  | .nil => 1
  | .ptr d => uptoBulk d + 1
  | .slice elems spare => uptoBulkAll elems + uptoBulkAll spare + 1
  | .agg parts => uptoBulkAll parts + 1
  | .iface _ d => uptoBulk d + 1
  | .map entries => uptoBulkEntries entries + 1
  | .held _ => 1
def uptoBulkAll {H : Type} : List (DataW H) → Nat
  | [] => 0
  | d :: r => uptoBulk d + uptoBulkAll r
def uptoBulkEntries {H : Type} : List (Lit × DataW H) → Nat
  | [] => 0
  | x :: r => uptoBulkEntry x + uptoBulkEntries r
def uptoBulkEntry {H : Type} : Lit × DataW H → Nat
  | (.string bytes, d) => bytes.length + uptoBulk d + 1
  | (_, d) => uptoBulk d + 1
 end
def uptoSmall : (H : Type) → List (DataW H) → Bool := fun _ ds => decide (uptoBulkAll ds ≤ 1048576)
def OpenSpec.upto (s : _root_.Go.ChangeSpec) : _root_.Go.OpenSpec := { _root_.Go.OpenSpec.ofChange s with cond := some uptoSmall }

/-- 'laws.FnDivisors', WHERE WHAT IT READS IS OF BULK AT MOST 1048576: true; the input reads as it did. -/
def fnDivisorsUptoRow : OpenClaim := { program := "ytnanahdhejiniaa", sum := "95c6f917082fddcd54276b5616f95096e09674db5597f665d1973176e8276545", func := "loop.example/g00915/laws.FnDivisors", spec := "fnDivisors", apart := false, narrowed := true }
def FnDivisorsUptoSaid : Prop := fnDivisorsUptoRow.holds Try.pinned (OpenSpec.upto fnDivisorsSpec)

/-- 'laws.FnIntervalSets', WHERE WHAT IT READS IS OF BULK AT MOST 1048576: true; the input reads as it did. -/
def fnIntervalSetsUptoRow : OpenClaim := { program := "ytnanahdhejiniaa", sum := "95c6f917082fddcd54276b5616f95096e09674db5597f665d1973176e8276545", func := "loop.example/g00915/laws.FnIntervalSets", spec := "fnIntervalSets", apart := false, narrowed := true }
def FnIntervalSetsUptoSaid : Prop := fnIntervalSetsUptoRow.holds Try.pinned (OpenSpec.upto fnIntervalSetsSpec)

/-- 'laws.FnQuotients', WHERE WHAT IT READS IS OF BULK AT MOST 1048576: true; the input reads as it did. -/
def fnQuotientsUptoRow : OpenClaim := { program := "ytnanahdhejiniaa", sum := "95c6f917082fddcd54276b5616f95096e09674db5597f665d1973176e8276545", func := "loop.example/g00915/laws.FnQuotients", spec := "fnQuotients", apart := false, narrowed := true }
def FnQuotientsUptoSaid : Prop := fnQuotientsUptoRow.holds Try.pinned (OpenSpec.upto fnQuotientsSpec)

/-- 'laws.FnRatioSums', WHERE WHAT IT READS IS OF BULK AT MOST 1048576: true; the input reads as it did. -/
def fnRatioSumsUptoRow : OpenClaim := { program := "ytnanahdhejiniaa", sum := "95c6f917082fddcd54276b5616f95096e09674db5597f665d1973176e8276545", func := "loop.example/g00915/laws.FnRatioSums", spec := "fnRatioSums", apart := false, narrowed := true }
def FnRatioSumsUptoSaid : Prop := fnRatioSumsUptoRow.holds Try.pinned (OpenSpec.upto fnRatioSumsSpec)

/-- 'laws.FnScales', WHERE WHAT IT READS IS OF BULK AT MOST 1048576: true; the input reads as it did. -/
def fnScalesUptoRow : OpenClaim := { program := "ytnanahdhejiniaa", sum := "95c6f917082fddcd54276b5616f95096e09674db5597f665d1973176e8276545", func := "loop.example/g00915/laws.FnScales", spec := "fnScales", apart := false, narrowed := true }
def FnScalesUptoSaid : Prop := fnScalesUptoRow.holds Try.pinned (OpenSpec.upto fnScalesSpec)

/-- 'laws.FnDirections', WHERE WHAT IT READS IS OF BULK AT MOST 1048576: true; the input reads as it did. -/
def fnDirectionsUptoRow : OpenClaim := { program := "ytnanahdhejiniaa", sum := "95c6f917082fddcd54276b5616f95096e09674db5597f665d1973176e8276545", func := "loop.example/g00915/laws.FnDirections", spec := "fnDirections", apart := false, narrowed := true }
def FnDirectionsUptoSaid : Prop := fnDirectionsUptoRow.holds Try.pinned (OpenSpec.upto fnDirectionsSpec)

/-- 'laws.FnRatios', WHERE WHAT IT READS IS OF BULK AT MOST 1048576: true; the input reads as it did. -/
def fnRatiosUptoRow : OpenClaim := { program := "ytnanahdhejiniaa", sum := "95c6f917082fddcd54276b5616f95096e09674db5597f665d1973176e8276545", func := "loop.example/g00915/laws.FnRatios", spec := "fnRatios", apart := false, narrowed := true }
def FnRatiosUptoSaid : Prop := fnRatiosUptoRow.holds Try.pinned (OpenSpec.upto fnRatiosSpec)

/-- 'laws.FnMediants', WHERE WHAT IT READS IS OF BULK AT MOST 1048576: true; the input reads as it did. -/
def fnMediantsUptoRow : OpenClaim := { program := "ytnanahdhejiniaa", sum := "95c6f917082fddcd54276b5616f95096e09674db5597f665d1973176e8276545", func := "loop.example/g00915/laws.FnMediants", spec := "fnMediants", apart := false, narrowed := true }
def FnMediantsUptoSaid : Prop := fnMediantsUptoRow.holds Try.pinned (OpenSpec.upto fnMediantsSpec)

/-- 'laws.FnIntervalSums', WHERE WHAT IT READS IS OF BULK AT MOST 1048576: true; the input reads as it did. -/
def fnIntervalSumsUptoRow : OpenClaim := { program := "ytnanahdhejiniaa", sum := "95c6f917082fddcd54276b5616f95096e09674db5597f665d1973176e8276545", func := "loop.example/g00915/laws.FnIntervalSums", spec := "fnIntervalSums", apart := false, narrowed := true }
def FnIntervalSumsUptoSaid : Prop := fnIntervalSumsUptoRow.holds Try.pinned (OpenSpec.upto fnIntervalSumsSpec)

/-- 'laws.FnFans', WHERE WHAT IT READS IS OF BULK AT MOST 1048576: true; the input reads as it did. -/
def fnFansUptoRow : OpenClaim := { program := "ytnanahdhejiniaa", sum := "95c6f917082fddcd54276b5616f95096e09674db5597f665d1973176e8276545", func := "loop.example/g00915/laws.FnFans", spec := "fnFans", apart := false, narrowed := true }
def FnFansUptoSaid : Prop := fnFansUptoRow.holds Try.pinned (OpenSpec.upto fnFansSpec)

/-- 'laws.FnProducts', WHERE WHAT IT READS IS OF BULK AT MOST 1048576: true; the input reads as it did. -/
def fnProductsUptoRow : OpenClaim := { program := "ytnanahdhejiniaa", sum := "95c6f917082fddcd54276b5616f95096e09674db5597f665d1973176e8276545", func := "loop.example/g00915/laws.FnProducts", spec := "fnProducts", apart := false, narrowed := true }
def FnProductsUptoSaid : Prop := fnProductsUptoRow.holds Try.pinned (OpenSpec.upto fnProductsSpec)

/-- 'laws.FnMedians', WHERE WHAT IT READS IS OF BULK AT MOST 1048576: true; the input reads as it did. -/
def fnMediansUptoRow : OpenClaim := { program := "ytnanahdhejiniaa", sum := "95c6f917082fddcd54276b5616f95096e09674db5597f665d1973176e8276545", func := "loop.example/g00915/laws.FnMedians", spec := "fnMedians", unfollowed := true, recurses := true, apart := false, narrowed := true }
def FnMediansUptoSaid : Prop := fnMediansUptoRow.holds Try.pinned (OpenSpec.upto fnMediansSpec)

end Rows
end Go.Proofs.Ytnanahdhejiniaa
