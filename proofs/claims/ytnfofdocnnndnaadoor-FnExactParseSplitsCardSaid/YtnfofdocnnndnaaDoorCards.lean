/-
  DERIVED. GIVEN WITH THE SEED: THE CARDS: each row of YtnfofdocnnndnaaDoorRows.lean that lists a variable, with what it lists TIED to the program's text (the seventh form; the later family's looks); each row that meets fmt, with fmt's text TOLD by the authors' own Lean function (tested against real Go, not proved from fmt's source: count such statements apart). THE CARD IS WHAT COUNTS. Prove the row's statement (the work); the ties are given (YtnfofdocnnndnaaDoorTie.lean); close each card by the builder's one call (the guide's Derived/Test/ToyasCard.lean, 'card_holds'). Laid BY PROGRAM, IN A SANDBOX (cutbox-door.mjs). By AI agents, Wed Nov 11 2026. No macro, syntax, notation, axiom, sorry.
-/
import Derived.Test.YtnfofdocnnndnaaDoorRows
import GoSem.ClaimSeven
namespace Go.Proofs.YtnfofdocnnndnaaDoor
namespace Rows

/-- THE TIED CARD OF 'laws.FnExactSplitsText'. -/
def fnExactSplitsTextCard : Claim7 := { stood := { row := fnExactSplitsTextRow, standIns := [], harness := (true, "b5106abff8b72f026b8dc576bbabe3f7749713285e4b956a0be20f709aaffc87"), looks := true }, kinds := [], alts := [], laidByText := true, laidKinds := [.data, .data, .data], laidTests := true, laidLooks := .later }
def FnExactSplitsTextCardSaid : Prop := Claim7.holds Tryd.pinned (.plain (OpenSpec.ofChange fnExactSplitsTextSpec)) fnExactSplitsTextCard

/-- THE TIED CARD OF 'laws.FnExactCountSplitGames'. -/
def fnExactCountSplitGamesCard : Claim7 := { stood := { row := fnExactCountSplitGamesRow, standIns := [], harness := (true, "b5106abff8b72f026b8dc576bbabe3f7749713285e4b956a0be20f709aaffc87"), looks := true }, kinds := [], alts := [], laidByText := true, laidKinds := [.data, .data, .data], laidTests := true, laidLooks := .later }
def FnExactCountSplitGamesCardSaid : Prop := Claim7.holds Tryd.pinned (.plain (OpenSpec.ofChange fnExactCountSplitGamesSpec)) fnExactCountSplitGamesCard

/-- THE TIED CARD OF 'laws.FnExactParseSplits'. -/
def fnExactParseSplitsCard : Claim7 := { stood := { row := fnExactParseSplitsRow, standIns := [], harness := (true, "b5106abff8b72f026b8dc576bbabe3f7749713285e4b956a0be20f709aaffc87"), looks := true }, kinds := [], alts := [], laidByText := true, laidKinds := [.data, .data, .data, .data, .sentinel, .sentinel, .pinned], laidTests := true, laidLooks := .later }
def FnExactParseSplitsCardSaid : Prop := Claim7.holds Tryd.pinned (.plain (OpenSpec.ofChange fnExactParseSplitsSpec)) fnExactParseSplitsCard

/-- THE SECOND FORM's CARD OF 'laws.FnExactSplitsText'. -/
def fnExactSplitsTextUptoCard : Claim7 := { stood := { row := fnExactSplitsTextUptoRow, standIns := [], harness := (true, "b5106abff8b72f026b8dc576bbabe3f7749713285e4b956a0be20f709aaffc87"), looks := true }, kinds := [], alts := [], laidByText := true, laidKinds := [.data, .data, .data], laidTests := true, laidLooks := .later }
def FnExactSplitsTextUptoCardSaid : Prop := Claim7.holds Tryd.pinned (.plain (OpenSpec.upto fnExactSplitsTextSpec)) fnExactSplitsTextUptoCard

/-- THE SECOND FORM's CARD OF 'laws.FnExactCountSplitGames'. -/
def fnExactCountSplitGamesUptoCard : Claim7 := { stood := { row := fnExactCountSplitGamesUptoRow, standIns := [], harness := (true, "b5106abff8b72f026b8dc576bbabe3f7749713285e4b956a0be20f709aaffc87"), looks := true }, kinds := [], alts := [], laidByText := true, laidKinds := [.data, .data, .data], laidTests := true, laidLooks := .later }
def FnExactCountSplitGamesUptoCardSaid : Prop := Claim7.holds Tryd.pinned (.plain (OpenSpec.upto fnExactCountSplitGamesSpec)) fnExactCountSplitGamesUptoCard

/-- THE SECOND FORM's CARD OF 'laws.FnExactParseSplits'. -/
def fnExactParseSplitsUptoCard : Claim7 := { stood := { row := fnExactParseSplitsUptoRow, standIns := [], harness := (true, "b5106abff8b72f026b8dc576bbabe3f7749713285e4b956a0be20f709aaffc87"), looks := true }, kinds := [], alts := [], laidByText := true, laidKinds := [.data, .data, .data, .data, .sentinel, .sentinel, .pinned], laidTests := true, laidLooks := .later }
def FnExactParseSplitsUptoCardSaid : Prop := Claim7.holds Tryd.pinned (.plain (OpenSpec.upto fnExactParseSplitsSpec)) fnExactParseSplitsUptoCard
end Rows
end Go.Proofs.YtnfofdocnnndnaaDoor
