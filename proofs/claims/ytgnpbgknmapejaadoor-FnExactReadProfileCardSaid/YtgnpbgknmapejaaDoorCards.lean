/-
  DERIVED. GIVEN WITH THE SEED: THE CARDS: each row of YtgnpbgknmapejaaDoorRows.lean that lists a variable, with what it lists TIED to the program's text (the seventh form; the later family's looks); each row that meets fmt, with fmt's text TOLD by the authors' own Lean function (tested against real Go, not proved from fmt's source: count such statements apart). THE CARD IS WHAT COUNTS. Prove the row's statement (the work); the ties are given (YtgnpbgknmapejaaDoorTie.lean); close each card by the builder's one call (the guide's Derived/Test/ToyasCard.lean, 'card_holds'). Laid BY PROGRAM, IN A SANDBOX (cutbox-door.mjs). By AI agents, Wed Nov 11 2026. No macro, syntax, notation, axiom, sorry.
-/
import Derived.Test.YtgnpbgknmapejaaDoorRows
import GoSem.ClaimSeven
namespace Go.Proofs.YtgnpbgknmapejaaDoor
namespace Rows

/-- THE TIED CARD OF 'laws.FnRatioTexts'. -/
def fnRatioTextsCard : Claim7 := { stood := { row := fnRatioTextsRow, standIns := [], harness := (true, "0b460bf71693702e6b29452078e2eb12ce3ff6af385aca8be50eb16e5a5fcc02"), looks := true }, kinds := [], alts := [], laidByText := true, laidKinds := [.data, .data, .data, .sentinel, .sentinel], laidTests := true, laidLooks := .later }
def FnRatioTextsCardSaid : Prop := Claim7.holds Tryd.pinned (.plain (OpenSpec.ofChange fnRatioTextsSpec)) fnRatioTextsCard

/-- THE TIED CARD OF 'laws.FnMetres'. -/
def fnMetresCard : Claim7 := { stood := { row := fnMetresRow, standIns := [], harness := (true, "0b460bf71693702e6b29452078e2eb12ce3ff6af385aca8be50eb16e5a5fcc02"), looks := true }, kinds := [], alts := [], laidByText := true, laidKinds := [.data, .data, .data, .data, .sentinel, .sentinel, .pinned], laidTests := true, laidLooks := .later }
def FnMetresCardSaid : Prop := Claim7.holds Tryd.pinned (.plain (OpenSpec.ofChange fnMetresSpec)) fnMetresCard

/-- THE TIED CARD OF 'laws.FnExactReadProfile'. -/
def fnExactReadProfileCard : Claim7 := { stood := { row := fnExactReadProfileRow, standIns := [], harness := (true, "0b460bf71693702e6b29452078e2eb12ce3ff6af385aca8be50eb16e5a5fcc02"), looks := true }, kinds := [], alts := [], laidByText := true, laidKinds := [.data, .data, .data, .data, .sentinel, .sentinel, .pinned], laidTests := true, laidLooks := .later }
def FnExactReadProfileCardSaid : Prop := Claim7.holds Tryd.pinned (.plain (OpenSpec.ofChange fnExactReadProfileSpec)) fnExactReadProfileCard

/-- THE TIED CARD OF 'laws.FnExactMetresText'. -/
def fnExactMetresTextCard : Claim7 := { stood := { row := fnExactMetresTextRow, standIns := [], harness := (true, "0b460bf71693702e6b29452078e2eb12ce3ff6af385aca8be50eb16e5a5fcc02"), looks := true }, kinds := [], alts := [], laidByText := true, laidKinds := [.data, .data, .data], laidTests := true, laidLooks := .later }
def FnExactMetresTextCardSaid : Prop := Claim7.holds Tryd.pinned (.plain (OpenSpec.ofChange fnExactMetresTextSpec)) fnExactMetresTextCard

/-- THE TIED CARD OF 'laws.FnExactRatioText'. -/
def fnExactRatioTextCard : Claim7 := { stood := { row := fnExactRatioTextRow, standIns := [], harness := (true, "0b460bf71693702e6b29452078e2eb12ce3ff6af385aca8be50eb16e5a5fcc02"), looks := true }, kinds := [], alts := [], laidByText := true, laidKinds := [.data, .data, .data], laidTests := true, laidLooks := .later }
def FnExactRatioTextCardSaid : Prop := Claim7.holds Tryd.pinned (.plain (OpenSpec.ofChange fnExactRatioTextSpec)) fnExactRatioTextCard

/-- THE TIED CARD OF 'laws.FnExactReadHistory'. -/
def fnExactReadHistoryCard : Claim7 := { stood := { row := fnExactReadHistoryRow, standIns := [], harness := (true, "0b460bf71693702e6b29452078e2eb12ce3ff6af385aca8be50eb16e5a5fcc02"), looks := true }, kinds := [], alts := [], laidByText := true, laidKinds := [.data, .pinned], laidTests := true, laidLooks := .later }
def FnExactReadHistoryCardSaid : Prop := Claim7.holds Tryd.pinned (.plain (OpenSpec.ofChange fnExactReadHistorySpec)) fnExactReadHistoryCard

/-- THE TIED CARD OF 'laws.FnExactProfileText'. -/
def fnExactProfileTextCard : Claim7 := { stood := { row := fnExactProfileTextRow, standIns := [], harness := (true, "0b460bf71693702e6b29452078e2eb12ce3ff6af385aca8be50eb16e5a5fcc02"), looks := true }, kinds := [], alts := [], laidByText := true, laidKinds := [.data, .data, .data], laidTests := true, laidLooks := .later }
def FnExactProfileTextCardSaid : Prop := Claim7.holds Tryd.pinned (.plain (OpenSpec.ofChange fnExactProfileTextSpec)) fnExactProfileTextCard

/-- THE TIED CARD OF 'laws.FnExactReadRatio'. -/
def fnExactReadRatioCard : Claim7 := { stood := { row := fnExactReadRatioRow, standIns := [], harness := (true, "0b460bf71693702e6b29452078e2eb12ce3ff6af385aca8be50eb16e5a5fcc02"), looks := true }, kinds := [], alts := [], laidByText := true, laidKinds := [.data, .data, .data, .sentinel, .sentinel], laidTests := true, laidLooks := .later }
def FnExactReadRatioCardSaid : Prop := Claim7.holds Tryd.pinned (.plain (OpenSpec.ofChange fnExactReadRatioSpec)) fnExactReadRatioCard

/-- THE TIED CARD OF 'laws.FnExactReadMetres'. -/
def fnExactReadMetresCard : Claim7 := { stood := { row := fnExactReadMetresRow, standIns := [], harness := (true, "0b460bf71693702e6b29452078e2eb12ce3ff6af385aca8be50eb16e5a5fcc02"), looks := true }, kinds := [], alts := [], laidByText := true, laidKinds := [.data, .data, .data, .data, .sentinel, .sentinel, .pinned], laidTests := true, laidLooks := .later }
def FnExactReadMetresCardSaid : Prop := Claim7.holds Tryd.pinned (.plain (OpenSpec.ofChange fnExactReadMetresSpec)) fnExactReadMetresCard

/-- THE TIED CARD OF 'laws.FnHistories'. -/
def fnHistoriesCard : Claim7 := { stood := { row := fnHistoriesRow, standIns := [], harness := (true, "0b460bf71693702e6b29452078e2eb12ce3ff6af385aca8be50eb16e5a5fcc02"), looks := true }, kinds := [], alts := [], laidByText := true, laidKinds := [.data, .pinned], laidTests := true, laidLooks := .later }
def FnHistoriesCardSaid : Prop := Claim7.holds Tryd.pinned (.plain (OpenSpec.ofChange fnHistoriesSpec)) fnHistoriesCard

/-- THE SECOND FORM's CARD OF 'laws.FnRatioTexts'. -/
def fnRatioTextsUptoCard : Claim7 := { stood := { row := fnRatioTextsUptoRow, standIns := [], harness := (true, "0b460bf71693702e6b29452078e2eb12ce3ff6af385aca8be50eb16e5a5fcc02"), looks := true }, kinds := [], alts := [], laidByText := true, laidKinds := [.data, .data, .data, .sentinel, .sentinel], laidTests := true, laidLooks := .later }
def FnRatioTextsUptoCardSaid : Prop := Claim7.holds Tryd.pinned (.plain (OpenSpec.upto fnRatioTextsSpec)) fnRatioTextsUptoCard

/-- THE SECOND FORM's CARD OF 'laws.FnMetres'. -/
def fnMetresUptoCard : Claim7 := { stood := { row := fnMetresUptoRow, standIns := [], harness := (true, "0b460bf71693702e6b29452078e2eb12ce3ff6af385aca8be50eb16e5a5fcc02"), looks := true }, kinds := [], alts := [], laidByText := true, laidKinds := [.data, .data, .data, .data, .sentinel, .sentinel, .pinned], laidTests := true, laidLooks := .later }
def FnMetresUptoCardSaid : Prop := Claim7.holds Tryd.pinned (.plain (OpenSpec.upto fnMetresSpec)) fnMetresUptoCard

/-- THE SECOND FORM's CARD OF 'laws.FnExactReadProfile'. -/
def fnExactReadProfileUptoCard : Claim7 := { stood := { row := fnExactReadProfileUptoRow, standIns := [], harness := (true, "0b460bf71693702e6b29452078e2eb12ce3ff6af385aca8be50eb16e5a5fcc02"), looks := true }, kinds := [], alts := [], laidByText := true, laidKinds := [.data, .data, .data, .data, .sentinel, .sentinel, .pinned], laidTests := true, laidLooks := .later }
def FnExactReadProfileUptoCardSaid : Prop := Claim7.holds Tryd.pinned (.plain (OpenSpec.upto fnExactReadProfileSpec)) fnExactReadProfileUptoCard

/-- THE SECOND FORM's CARD OF 'laws.FnExactMetresText'. -/
def fnExactMetresTextUptoCard : Claim7 := { stood := { row := fnExactMetresTextUptoRow, standIns := [], harness := (true, "0b460bf71693702e6b29452078e2eb12ce3ff6af385aca8be50eb16e5a5fcc02"), looks := true }, kinds := [], alts := [], laidByText := true, laidKinds := [.data, .data, .data], laidTests := true, laidLooks := .later }
def FnExactMetresTextUptoCardSaid : Prop := Claim7.holds Tryd.pinned (.plain (OpenSpec.upto fnExactMetresTextSpec)) fnExactMetresTextUptoCard

/-- THE SECOND FORM's CARD OF 'laws.FnExactRatioText'. -/
def fnExactRatioTextUptoCard : Claim7 := { stood := { row := fnExactRatioTextUptoRow, standIns := [], harness := (true, "0b460bf71693702e6b29452078e2eb12ce3ff6af385aca8be50eb16e5a5fcc02"), looks := true }, kinds := [], alts := [], laidByText := true, laidKinds := [.data, .data, .data], laidTests := true, laidLooks := .later }
def FnExactRatioTextUptoCardSaid : Prop := Claim7.holds Tryd.pinned (.plain (OpenSpec.upto fnExactRatioTextSpec)) fnExactRatioTextUptoCard

/-- THE SECOND FORM's CARD OF 'laws.FnExactReadHistory'. -/
def fnExactReadHistoryUptoCard : Claim7 := { stood := { row := fnExactReadHistoryUptoRow, standIns := [], harness := (true, "0b460bf71693702e6b29452078e2eb12ce3ff6af385aca8be50eb16e5a5fcc02"), looks := true }, kinds := [], alts := [], laidByText := true, laidKinds := [.data, .pinned], laidTests := true, laidLooks := .later }
def FnExactReadHistoryUptoCardSaid : Prop := Claim7.holds Tryd.pinned (.plain (OpenSpec.upto fnExactReadHistorySpec)) fnExactReadHistoryUptoCard

/-- THE SECOND FORM's CARD OF 'laws.FnExactProfileText'. -/
def fnExactProfileTextUptoCard : Claim7 := { stood := { row := fnExactProfileTextUptoRow, standIns := [], harness := (true, "0b460bf71693702e6b29452078e2eb12ce3ff6af385aca8be50eb16e5a5fcc02"), looks := true }, kinds := [], alts := [], laidByText := true, laidKinds := [.data, .data, .data], laidTests := true, laidLooks := .later }
def FnExactProfileTextUptoCardSaid : Prop := Claim7.holds Tryd.pinned (.plain (OpenSpec.upto fnExactProfileTextSpec)) fnExactProfileTextUptoCard

/-- THE SECOND FORM's CARD OF 'laws.FnExactReadRatio'. -/
def fnExactReadRatioUptoCard : Claim7 := { stood := { row := fnExactReadRatioUptoRow, standIns := [], harness := (true, "0b460bf71693702e6b29452078e2eb12ce3ff6af385aca8be50eb16e5a5fcc02"), looks := true }, kinds := [], alts := [], laidByText := true, laidKinds := [.data, .data, .data, .sentinel, .sentinel], laidTests := true, laidLooks := .later }
def FnExactReadRatioUptoCardSaid : Prop := Claim7.holds Tryd.pinned (.plain (OpenSpec.upto fnExactReadRatioSpec)) fnExactReadRatioUptoCard

/-- THE SECOND FORM's CARD OF 'laws.FnExactReadMetres'. -/
def fnExactReadMetresUptoCard : Claim7 := { stood := { row := fnExactReadMetresUptoRow, standIns := [], harness := (true, "0b460bf71693702e6b29452078e2eb12ce3ff6af385aca8be50eb16e5a5fcc02"), looks := true }, kinds := [], alts := [], laidByText := true, laidKinds := [.data, .data, .data, .data, .sentinel, .sentinel, .pinned], laidTests := true, laidLooks := .later }
def FnExactReadMetresUptoCardSaid : Prop := Claim7.holds Tryd.pinned (.plain (OpenSpec.upto fnExactReadMetresSpec)) fnExactReadMetresUptoCard

/-- THE SECOND FORM's CARD OF 'laws.FnHistories'. -/
def fnHistoriesUptoCard : Claim7 := { stood := { row := fnHistoriesUptoRow, standIns := [], harness := (true, "0b460bf71693702e6b29452078e2eb12ce3ff6af385aca8be50eb16e5a5fcc02"), looks := true }, kinds := [], alts := [], laidByText := true, laidKinds := [.data, .pinned], laidTests := true, laidLooks := .later }
def FnHistoriesUptoCardSaid : Prop := Claim7.holds Tryd.pinned (.plain (OpenSpec.upto fnHistoriesSpec)) fnHistoriesUptoCard
end Rows
end Go.Proofs.YtgnpbgknmapejaaDoor
