/-
  DERIVED. GIVEN WITH THE SEED: THE CARDS: each row of YtcpeldgnabfdmabGreatDoorRows.lean that lists a variable, with what it lists TIED to the program's text (the seventh form; the later family's looks); each row that meets fmt, with fmt's text TOLD by the authors' own Lean function (tested against real Go, not proved from fmt's source: count such statements apart). THE CARD IS WHAT COUNTS. Prove the row's statement (the work); the ties are given (YtcpeldgnabfdmabGreatDoorTie.lean); close each card by the builder's one call (the guide's Derived/Test/ToyasCard.lean, 'card_holds'). Laid BY PROGRAM, IN A SANDBOX (cutbox-door.mjs). By AI agents, Wed Nov 11 2026. No macro, syntax, notation, axiom, sorry.
-/
import Derived.Test.YtcpeldgnabfdmabGreatDoorRows
import GoSem.ClaimSeven
namespace Go.Proofs.YtcpeldgnabfdmabGreatDoor
namespace Rows

/-- THE TIED CARD OF 'laws.FnExactStepTray'. -/
def fnExactStepTrayCard : Claim7 := { stood := { row := fnExactStepTrayRow, standIns := [], harness := (true, "31a7e0c1a712dc56f6df2e7a839dd6eb7d6394204ded30fb1f88b1164532ed4d"), looks := false }, kinds := [], alts := [], laidByText := true, laidKinds := [.data, .pinned], laidTests := true, laidLooks := .later }
def FnExactStepTrayCardSaid : Prop := Claim7.holds Tryz.pinned (.plain (OpenSpec.ofChange fnExactStepTraySpec)) fnExactStepTrayCard

/-- THE TIED CARD OF 'laws.FnExactStepsOfTilt'. -/
def fnExactStepsOfTiltCard : Claim7 := { stood := { row := fnExactStepsOfTiltRow, standIns := [], harness := (true, "31a7e0c1a712dc56f6df2e7a839dd6eb7d6394204ded30fb1f88b1164532ed4d"), looks := false }, kinds := [], alts := [], laidByText := true, laidKinds := [.data, .pinned], laidTests := true, laidLooks := .later }
def FnExactStepsOfTiltCardSaid : Prop := Claim7.holds Tryz.pinned (.plain (OpenSpec.ofChange fnExactStepsOfTiltSpec)) fnExactStepsOfTiltCard

/-- THE SECOND FORM's CARD OF 'laws.FnExactStepTray'. -/
def fnExactStepTrayUptoCard : Claim7 := { stood := { row := fnExactStepTrayUptoRow, standIns := [], harness := (true, "31a7e0c1a712dc56f6df2e7a839dd6eb7d6394204ded30fb1f88b1164532ed4d"), looks := false }, kinds := [], alts := [], laidByText := true, laidKinds := [.data, .pinned], laidTests := true, laidLooks := .later }
def FnExactStepTrayUptoCardSaid : Prop := Claim7.holds Tryz.pinned (.plain (OpenSpec.upto fnExactStepTraySpec)) fnExactStepTrayUptoCard

/-- THE SECOND FORM's CARD OF 'laws.FnExactStepsOfTilt'. -/
def fnExactStepsOfTiltUptoCard : Claim7 := { stood := { row := fnExactStepsOfTiltUptoRow, standIns := [], harness := (true, "31a7e0c1a712dc56f6df2e7a839dd6eb7d6394204ded30fb1f88b1164532ed4d"), looks := false }, kinds := [], alts := [], laidByText := true, laidKinds := [.data, .pinned], laidTests := true, laidLooks := .later }
def FnExactStepsOfTiltUptoCardSaid : Prop := Claim7.holds Tryz.pinned (.plain (OpenSpec.upto fnExactStepsOfTiltSpec)) fnExactStepsOfTiltUptoCard
end Rows
end Go.Proofs.YtcpeldgnabfdmabGreatDoor
