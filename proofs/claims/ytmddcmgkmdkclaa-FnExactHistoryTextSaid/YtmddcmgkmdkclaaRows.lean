/-
  No cell of these rows narrows 'for every input' (looked for: loops, veiled, ifaces, maps, wideKeys, modest, calm, conditions, laid).
  DERIVED. THE GIVEN ROWS OF THIS SEAT. 9 by the template 'for every input the law returns true; each argument reads behind the call as it read before'; 0 by the template 'total and deterministic' (their statements: YtmddcmgkmdkclaaTotals.lean).
  GIVEN WITH THE SEED: the statements are not yours to turn. If you find one false, say at which input.
  Laid BY PROGRAM, IN A SANDBOX (cutbox-rows.mjs): the forced cells as the released guide's own fill.sh prints them over the translation 93039a02c902eb5d… (all of the seat's roots in one cut). By AI agents, Wed Nov 11 2026. No macro, syntax, notation, axiom, sorry.
-/
import Derived.Test.YtmddcmgkmdkclaaChecked
import GoSem.Claim
import GoSem.ClaimJoined
import GoSem.ClaimMapViews
import Derived.JoinedTies
import Derived.KernelRfl
namespace Go.Proofs.Ytmddcmgkmdkclaa
/- THE CELL 'sum', in the pinned program and in every row, IS THE sha256 OF THE DUMP (.gsa) THAT YtmddcmgkmdkclaaProg.lean LOADS. Nothing in Lean hashes anything: it is a label: what it is worth is what the hold of that sum in a sandbox is worth. -/
noncomputable def Try.pinned : Pinned := { name := "ytmddcmgkmdkclaa", sum := "93039a02c902eb5df29f771c3921b83955e18fb98bc30602cfe9721e87e4540f", checked := Try.checked }
namespace Rows
def none {H : Type} : Left H := { results := [], args := [] }

/-- 'laws.FnExactHistoryText': WHATEVER THE INPUT: true; the input reads as it did. -/
def fnExactHistoryTextSpec : ChangeSpec := { name := "fnExactHistoryText", fn := fun _ => fun
  | [d] => { results := [.lit (.bool true)], args := [d] }
  | _ => none }
def fnExactHistoryTextRow : OpenClaim := { program := "ytmddcmgkmdkclaa", sum := "93039a02c902eb5df29f771c3921b83955e18fb98bc30602cfe9721e87e4540f", func := "loop.example/g00915/laws.FnExactHistoryText", spec := "fnExactHistoryText", apart := false }
def FnExactHistoryTextSaid : Prop := fnExactHistoryTextRow.holds Try.pinned (OpenSpec.ofChange fnExactHistoryTextSpec)

/-- ITS FALSE NEIGHBOUR: 'it returns false'. Refute it at one input. -/
def fnExactHistoryTextWrong : ChangeSpec := { name := "fnExactHistoryText", fn := fun _ => fun
  | [d] => { results := [.lit (.bool false)], args := [d] }
  | _ => none }
def FnExactHistoryTextWrongFalsely : Prop := fnExactHistoryTextRow.holds Try.pinned (OpenSpec.ofChange fnExactHistoryTextWrong)

/-- 'laws.FnExactEnergyOf': WHATEVER THE INPUT: true; the input reads as it did. -/
def fnExactEnergyOfSpec : ChangeSpec := { name := "fnExactEnergyOf", fn := fun _ => fun
  | [d] => { results := [.lit (.bool true)], args := [d] }
  | _ => none }
def fnExactEnergyOfRow : OpenClaim := { program := "ytmddcmgkmdkclaa", sum := "93039a02c902eb5df29f771c3921b83955e18fb98bc30602cfe9721e87e4540f", func := "loop.example/g00915/laws.FnExactEnergyOf", spec := "fnExactEnergyOf", apart := false }
def FnExactEnergyOfSaid : Prop := fnExactEnergyOfRow.holds Try.pinned (OpenSpec.ofChange fnExactEnergyOfSpec)

/-- ITS FALSE NEIGHBOUR: 'it returns false'. Refute it at one input. -/
def fnExactEnergyOfWrong : ChangeSpec := { name := "fnExactEnergyOf", fn := fun _ => fun
  | [d] => { results := [.lit (.bool false)], args := [d] }
  | _ => none }
def FnExactEnergyOfWrongFalsely : Prop := fnExactEnergyOfRow.holds Try.pinned (OpenSpec.ofChange fnExactEnergyOfWrong)

/-- 'laws.FnExactSidelobeOf': WHATEVER THE INPUT: true; the input reads as it did. -/
def fnExactSidelobeOfSpec : ChangeSpec := { name := "fnExactSidelobeOf", fn := fun _ => fun
  | [d] => { results := [.lit (.bool true)], args := [d] }
  | _ => none }
def fnExactSidelobeOfRow : OpenClaim := { program := "ytmddcmgkmdkclaa", sum := "93039a02c902eb5df29f771c3921b83955e18fb98bc30602cfe9721e87e4540f", func := "loop.example/g00915/laws.FnExactSidelobeOf", spec := "fnExactSidelobeOf", apart := false }
def FnExactSidelobeOfSaid : Prop := fnExactSidelobeOfRow.holds Try.pinned (OpenSpec.ofChange fnExactSidelobeOfSpec)

/-- ITS FALSE NEIGHBOUR: 'it returns false'. Refute it at one input. -/
def fnExactSidelobeOfWrong : ChangeSpec := { name := "fnExactSidelobeOf", fn := fun _ => fun
  | [d] => { results := [.lit (.bool false)], args := [d] }
  | _ => none }
def FnExactSidelobeOfWrongFalsely : Prop := fnExactSidelobeOfRow.holds Try.pinned (OpenSpec.ofChange fnExactSidelobeOfWrong)

/-- 'laws.FnExactTurnSignal': WHATEVER THE INPUT: true; the input reads as it did. -/
def fnExactTurnSignalSpec : ChangeSpec := { name := "fnExactTurnSignal", fn := fun _ => fun
  | [d] => { results := [.lit (.bool true)], args := [d] }
  | _ => none }
def fnExactTurnSignalRow : OpenClaim := { program := "ytmddcmgkmdkclaa", sum := "93039a02c902eb5df29f771c3921b83955e18fb98bc30602cfe9721e87e4540f", func := "loop.example/g00915/laws.FnExactTurnSignal", spec := "fnExactTurnSignal", apart := false }
def FnExactTurnSignalSaid : Prop := fnExactTurnSignalRow.holds Try.pinned (OpenSpec.ofChange fnExactTurnSignalSpec)

/-- ITS FALSE NEIGHBOUR: 'it returns false'. Refute it at one input. -/
def fnExactTurnSignalWrong : ChangeSpec := { name := "fnExactTurnSignal", fn := fun _ => fun
  | [d] => { results := [.lit (.bool false)], args := [d] }
  | _ => none }
def FnExactTurnSignalWrongFalsely : Prop := fnExactTurnSignalRow.holds Try.pinned (OpenSpec.ofChange fnExactTurnSignalWrong)

/-- 'laws.FnExactEncloseAll': WHATEVER THE INPUT: true; the input reads as it did. -/
def fnExactEncloseAllSpec : ChangeSpec := { name := "fnExactEncloseAll", fn := fun _ => fun
  | [d] => { results := [.lit (.bool true)], args := [d] }
  | _ => none }
def fnExactEncloseAllRow : OpenClaim := { program := "ytmddcmgkmdkclaa", sum := "93039a02c902eb5df29f771c3921b83955e18fb98bc30602cfe9721e87e4540f", func := "loop.example/g00915/laws.FnExactEncloseAll", spec := "fnExactEncloseAll", apart := false }
def FnExactEncloseAllSaid : Prop := fnExactEncloseAllRow.holds Try.pinned (OpenSpec.ofChange fnExactEncloseAllSpec)

/-- ITS FALSE NEIGHBOUR: 'it returns false'. Refute it at one input. -/
def fnExactEncloseAllWrong : ChangeSpec := { name := "fnExactEncloseAll", fn := fun _ => fun
  | [d] => { results := [.lit (.bool false)], args := [d] }
  | _ => none }
def FnExactEncloseAllWrongFalsely : Prop := fnExactEncloseAllRow.holds Try.pinned (OpenSpec.ofChange fnExactEncloseAllWrong)

/-- 'laws.FnExactIsProfile': WHATEVER THE INPUT: true; the input reads as it did. -/
def fnExactIsProfileSpec : ChangeSpec := { name := "fnExactIsProfile", fn := fun _ => fun
  | [d] => { results := [.lit (.bool true)], args := [d] }
  | _ => none }
def fnExactIsProfileRow : OpenClaim := { program := "ytmddcmgkmdkclaa", sum := "93039a02c902eb5df29f771c3921b83955e18fb98bc30602cfe9721e87e4540f", func := "loop.example/g00915/laws.FnExactIsProfile", spec := "fnExactIsProfile", apart := false }
def FnExactIsProfileSaid : Prop := fnExactIsProfileRow.holds Try.pinned (OpenSpec.ofChange fnExactIsProfileSpec)

/-- ITS FALSE NEIGHBOUR: 'it returns false'. Refute it at one input. -/
def fnExactIsProfileWrong : ChangeSpec := { name := "fnExactIsProfile", fn := fun _ => fun
  | [d] => { results := [.lit (.bool false)], args := [d] }
  | _ => none }
def FnExactIsProfileWrongFalsely : Prop := fnExactIsProfileRow.holds Try.pinned (OpenSpec.ofChange fnExactIsProfileWrong)

/-- 'laws.FnExactSumIntervals': WHATEVER THE INPUT: true; the input reads as it did. -/
def fnExactSumIntervalsSpec : ChangeSpec := { name := "fnExactSumIntervals", fn := fun _ => fun
  | [d] => { results := [.lit (.bool true)], args := [d] }
  | _ => none }
def fnExactSumIntervalsRow : OpenClaim := { program := "ytmddcmgkmdkclaa", sum := "93039a02c902eb5df29f771c3921b83955e18fb98bc30602cfe9721e87e4540f", func := "loop.example/g00915/laws.FnExactSumIntervals", spec := "fnExactSumIntervals", apart := false }
def FnExactSumIntervalsSaid : Prop := fnExactSumIntervalsRow.holds Try.pinned (OpenSpec.ofChange fnExactSumIntervalsSpec)

/-- ITS FALSE NEIGHBOUR: 'it returns false'. Refute it at one input. -/
def fnExactSumIntervalsWrong : ChangeSpec := { name := "fnExactSumIntervals", fn := fun _ => fun
  | [d] => { results := [.lit (.bool false)], args := [d] }
  | _ => none }
def FnExactSumIntervalsWrongFalsely : Prop := fnExactSumIntervalsRow.holds Try.pinned (OpenSpec.ofChange fnExactSumIntervalsWrong)

/-- 'laws.FnExactAxisOf': WHATEVER THE INPUT: true; the input reads as it did. -/
def fnExactAxisOfSpec : ChangeSpec := { name := "fnExactAxisOf", fn := fun _ => fun
  | [d] => { results := [.lit (.bool true)], args := [d] }
  | _ => none }
def fnExactAxisOfRow : OpenClaim := { program := "ytmddcmgkmdkclaa", sum := "93039a02c902eb5df29f771c3921b83955e18fb98bc30602cfe9721e87e4540f", func := "loop.example/g00915/laws.FnExactAxisOf", spec := "fnExactAxisOf", apart := false }
def FnExactAxisOfSaid : Prop := fnExactAxisOfRow.holds Try.pinned (OpenSpec.ofChange fnExactAxisOfSpec)

/-- ITS FALSE NEIGHBOUR: 'it returns false'. Refute it at one input. -/
def fnExactAxisOfWrong : ChangeSpec := { name := "fnExactAxisOf", fn := fun _ => fun
  | [d] => { results := [.lit (.bool false)], args := [d] }
  | _ => none }
def FnExactAxisOfWrongFalsely : Prop := fnExactAxisOfRow.holds Try.pinned (OpenSpec.ofChange fnExactAxisOfWrong)

/-- 'laws.FnExactMedianOf': WHATEVER THE INPUT: true; the input reads as it did. -/
def fnExactMedianOfSpec : ChangeSpec := { name := "fnExactMedianOf", fn := fun _ => fun
  | [d] => { results := [.lit (.bool true)], args := [d] }
  | _ => none }
def fnExactMedianOfRow : OpenClaim := { program := "ytmddcmgkmdkclaa", sum := "93039a02c902eb5df29f771c3921b83955e18fb98bc30602cfe9721e87e4540f", func := "loop.example/g00915/laws.FnExactMedianOf", spec := "fnExactMedianOf", unfollowed := true, recurses := true, apart := false }
def FnExactMedianOfSaid : Prop := fnExactMedianOfRow.holds Try.pinned (OpenSpec.ofChange fnExactMedianOfSpec)

/-- ITS FALSE NEIGHBOUR: 'it returns false'. Refute it at one input. -/
def fnExactMedianOfWrong : ChangeSpec := { name := "fnExactMedianOf", fn := fun _ => fun
  | [d] => { results := [.lit (.bool false)], args := [d] }
  | _ => none }
def FnExactMedianOfWrongFalsely : Prop := fnExactMedianOfRow.holds Try.pinned (OpenSpec.ofChange fnExactMedianOfWrong)

/- THE SECOND FORM. 'bulk': how many values and letters a reading holds, each counted each time it is reached (what is shared counts as often as it is met; a slice's spare places count too). A statement '..UptoSaid' is the law's where the arguments, and the package variables that the reading takes, are together of bulk at most 1048576: NARROWER than '..Said'. Prove '..Said' where nothing that the law and all that it calls make is longer than what came in: it says more and counts as full. Else prove '..UptoSaid'. A law counts once. -/
mutual
def uptoBulk {H : Type} : DataW H → Nat
  | .lit (.string bytes) => bytes.length + 1
  | .lit _ => 1
  | .nil => 1
  | .ptr d => uptoBulk d + 1
  | .slice elems spare => uptoBulkAll elems + uptoBulkAll spare + 1
  | .agg parts => uptoBulkAll parts + 1
  | .iface _ d => uptoBulk d + 1
  | .map entries => uptoBulkEntries entries + 1
  | .held _ => 1
def uptoBulkAll {H : Type} : List (DataW H) → Nat
  | [] => 0
  | d :: r => uptoBulk d + uptoBulkAll r
def uptoBulkEntries {H : Type} : List (Lit × DataW H) → Nat
  | [] => 0
  | x :: r => uptoBulkEntry x + uptoBulkEntries r
def uptoBulkEntry {H : Type} : Lit × DataW H → Nat
  | (.string bytes, d) => bytes.length + uptoBulk d + 1
  | (_, d) => uptoBulk d + 1
 end
def uptoSmall : (H : Type) → List (DataW H) → Bool := fun _ ds => decide (uptoBulkAll ds ≤ 1048576)
def OpenSpec.upto (s : _root_.Go.ChangeSpec) : _root_.Go.OpenSpec := { _root_.Go.OpenSpec.ofChange s with cond := some uptoSmall }

/-- 'laws.FnExactHistoryText', WHERE WHAT IT READS IS OF BULK AT MOST 1048576: true; the input reads as it did. -/
def fnExactHistoryTextUptoRow : OpenClaim := { program := "ytmddcmgkmdkclaa", sum := "93039a02c902eb5df29f771c3921b83955e18fb98bc30602cfe9721e87e4540f", func := "loop.example/g00915/laws.FnExactHistoryText", spec := "fnExactHistoryText", apart := false, narrowed := true }
def FnExactHistoryTextUptoSaid : Prop := fnExactHistoryTextUptoRow.holds Try.pinned (OpenSpec.upto fnExactHistoryTextSpec)

/-- 'laws.FnExactEnergyOf', WHERE WHAT IT READS IS OF BULK AT MOST 1048576: true; the input reads as it did. -/
def fnExactEnergyOfUptoRow : OpenClaim := { program := "ytmddcmgkmdkclaa", sum := "93039a02c902eb5df29f771c3921b83955e18fb98bc30602cfe9721e87e4540f", func := "loop.example/g00915/laws.FnExactEnergyOf", spec := "fnExactEnergyOf", apart := false, narrowed := true }
def FnExactEnergyOfUptoSaid : Prop := fnExactEnergyOfUptoRow.holds Try.pinned (OpenSpec.upto fnExactEnergyOfSpec)

/-- 'laws.FnExactSidelobeOf', WHERE WHAT IT READS IS OF BULK AT MOST 1048576: true; the input reads as it did. -/
def fnExactSidelobeOfUptoRow : OpenClaim := { program := "ytmddcmgkmdkclaa", sum := "93039a02c902eb5df29f771c3921b83955e18fb98bc30602cfe9721e87e4540f", func := "loop.example/g00915/laws.FnExactSidelobeOf", spec := "fnExactSidelobeOf", apart := false, narrowed := true }
def FnExactSidelobeOfUptoSaid : Prop := fnExactSidelobeOfUptoRow.holds Try.pinned (OpenSpec.upto fnExactSidelobeOfSpec)

/-- 'laws.FnExactTurnSignal', WHERE WHAT IT READS IS OF BULK AT MOST 1048576: true; the input reads as it did. -/
def fnExactTurnSignalUptoRow : OpenClaim := { program := "ytmddcmgkmdkclaa", sum := "93039a02c902eb5df29f771c3921b83955e18fb98bc30602cfe9721e87e4540f", func := "loop.example/g00915/laws.FnExactTurnSignal", spec := "fnExactTurnSignal", apart := false, narrowed := true }
def FnExactTurnSignalUptoSaid : Prop := fnExactTurnSignalUptoRow.holds Try.pinned (OpenSpec.upto fnExactTurnSignalSpec)

/-- 'laws.FnExactEncloseAll', WHERE WHAT IT READS IS OF BULK AT MOST 1048576: true; the input reads as it did. -/
def fnExactEncloseAllUptoRow : OpenClaim := { program := "ytmddcmgkmdkclaa", sum := "93039a02c902eb5df29f771c3921b83955e18fb98bc30602cfe9721e87e4540f", func := "loop.example/g00915/laws.FnExactEncloseAll", spec := "fnExactEncloseAll", apart := false, narrowed := true }
def FnExactEncloseAllUptoSaid : Prop := fnExactEncloseAllUptoRow.holds Try.pinned (OpenSpec.upto fnExactEncloseAllSpec)

/-- 'laws.FnExactIsProfile', WHERE WHAT IT READS IS OF BULK AT MOST 1048576: true; the input reads as it did. -/
def fnExactIsProfileUptoRow : OpenClaim := { program := "ytmddcmgkmdkclaa", sum := "93039a02c902eb5df29f771c3921b83955e18fb98bc30602cfe9721e87e4540f", func := "loop.example/g00915/laws.FnExactIsProfile", spec := "fnExactIsProfile", apart := false, narrowed := true }
def FnExactIsProfileUptoSaid : Prop := fnExactIsProfileUptoRow.holds Try.pinned (OpenSpec.upto fnExactIsProfileSpec)

/-- 'laws.FnExactSumIntervals', WHERE WHAT IT READS IS OF BULK AT MOST 1048576: true; the input reads as it did. -/
def fnExactSumIntervalsUptoRow : OpenClaim := { program := "ytmddcmgkmdkclaa", sum := "93039a02c902eb5df29f771c3921b83955e18fb98bc30602cfe9721e87e4540f", func := "loop.example/g00915/laws.FnExactSumIntervals", spec := "fnExactSumIntervals", apart := false, narrowed := true }
def FnExactSumIntervalsUptoSaid : Prop := fnExactSumIntervalsUptoRow.holds Try.pinned (OpenSpec.upto fnExactSumIntervalsSpec)

/-- 'laws.FnExactAxisOf', WHERE WHAT IT READS IS OF BULK AT MOST 1048576: true; the input reads as it did. -/
def fnExactAxisOfUptoRow : OpenClaim := { program := "ytmddcmgkmdkclaa", sum := "93039a02c902eb5df29f771c3921b83955e18fb98bc30602cfe9721e87e4540f", func := "loop.example/g00915/laws.FnExactAxisOf", spec := "fnExactAxisOf", apart := false, narrowed := true }
def FnExactAxisOfUptoSaid : Prop := fnExactAxisOfUptoRow.holds Try.pinned (OpenSpec.upto fnExactAxisOfSpec)

/-- 'laws.FnExactMedianOf', WHERE WHAT IT READS IS OF BULK AT MOST 1048576: true; the input reads as it did. -/
def fnExactMedianOfUptoRow : OpenClaim := { program := "ytmddcmgkmdkclaa", sum := "93039a02c902eb5df29f771c3921b83955e18fb98bc30602cfe9721e87e4540f", func := "loop.example/g00915/laws.FnExactMedianOf", spec := "fnExactMedianOf", unfollowed := true, recurses := true, apart := false, narrowed := true }
def FnExactMedianOfUptoSaid : Prop := fnExactMedianOfUptoRow.holds Try.pinned (OpenSpec.upto fnExactMedianOfSpec)

end Rows
end Go.Proofs.Ytmddcmgkmdkclaa
