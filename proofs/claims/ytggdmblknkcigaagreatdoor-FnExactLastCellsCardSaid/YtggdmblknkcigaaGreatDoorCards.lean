/-
  DERIVED. GIVEN WITH THE SEED: THE CARDS: each row of YtggdmblknkcigaaGreatDoorRows.lean that lists a variable, with what it lists TIED to the program's text (the seventh form; the later family's looks); each row that meets fmt, with fmt's text TOLD by the authors' own Lean function (tested against real Go, not proved from fmt's source: count such statements apart). THE CARD IS WHAT COUNTS. Prove the row's statement (the work); the ties are given (YtggdmblknkcigaaGreatDoorTie.lean); close each card by the builder's one call (the guide's Derived/Test/ToyasCard.lean, 'card_holds'). Laid BY PROGRAM, IN A SANDBOX (cutbox-door.mjs). By AI agents, Wed Nov 11 2026. No macro, syntax, notation, axiom, sorry.
-/
import Derived.Test.YtggdmblknkcigaaGreatDoorRows
import GoSem.ClaimSeven
namespace Go.Proofs.YtggdmblknkcigaaGreatDoor
namespace Rows

/-- THE TIED CARD OF 'laws.FnExactPeriodOfWord'. -/
def fnExactPeriodOfWordCard : Claim7 := { stood := { row := fnExactPeriodOfWordRow, standIns := [], harness := (true, "2b94212fe02be836b90008d1089d1bb6f9dbb2502eff56bca13e386f41ce4ea1"), looks := false }, kinds := [], alts := [], laidByText := true, laidKinds := [.data, .pinned], laidTests := true, laidLooks := .later }
def FnExactPeriodOfWordCardSaid : Prop := Claim7.holds Tryz.pinned (.plain (OpenSpec.ofChange fnExactPeriodOfWordSpec)) fnExactPeriodOfWordCard

/-- THE TIED CARD OF 'laws.FnExactLastCells'. -/
def fnExactLastCellsCard : Claim7 := { stood := { row := fnExactLastCellsRow, standIns := [], harness := (true, "2b94212fe02be836b90008d1089d1bb6f9dbb2502eff56bca13e386f41ce4ea1"), looks := false }, kinds := [], alts := [], laidByText := true, laidKinds := [.data, .pinned], laidTests := true, laidLooks := .later }
def FnExactLastCellsCardSaid : Prop := Claim7.holds Tryz.pinned (.plain (OpenSpec.ofChange fnExactLastCellsSpec)) fnExactLastCellsCard

/-- THE SECOND FORM's CARD OF 'laws.FnExactPeriodOfWord'. -/
def fnExactPeriodOfWordUptoCard : Claim7 := { stood := { row := fnExactPeriodOfWordUptoRow, standIns := [], harness := (true, "2b94212fe02be836b90008d1089d1bb6f9dbb2502eff56bca13e386f41ce4ea1"), looks := false }, kinds := [], alts := [], laidByText := true, laidKinds := [.data, .pinned], laidTests := true, laidLooks := .later }
def FnExactPeriodOfWordUptoCardSaid : Prop := Claim7.holds Tryz.pinned (.plain (OpenSpec.upto fnExactPeriodOfWordSpec)) fnExactPeriodOfWordUptoCard

/-- THE SECOND FORM's CARD OF 'laws.FnExactLastCells'. -/
def fnExactLastCellsUptoCard : Claim7 := { stood := { row := fnExactLastCellsUptoRow, standIns := [], harness := (true, "2b94212fe02be836b90008d1089d1bb6f9dbb2502eff56bca13e386f41ce4ea1"), looks := false }, kinds := [], alts := [], laidByText := true, laidKinds := [.data, .pinned], laidTests := true, laidLooks := .later }
def FnExactLastCellsUptoCardSaid : Prop := Claim7.holds Tryz.pinned (.plain (OpenSpec.upto fnExactLastCellsSpec)) fnExactLastCellsUptoCard
end Rows
end Go.Proofs.YtggdmblknkcigaaGreatDoor
