/-
  DERIVED. GIVEN WITH THE SEED: THE CARDS: each row of YtcpeldgnabfdmaaDoorRows.lean that lists a variable, with what it lists TIED to the program's text (the seventh form; the later family's looks); each row that meets fmt, with fmt's text TOLD by the authors' own Lean function (tested against real Go, not proved from fmt's source: count such statements apart). THE CARD IS WHAT COUNTS. Prove the row's statement (the work); the ties are given (YtcpeldgnabfdmaaDoorTie.lean); close each card by the builder's one call (the guide's Derived/Test/ToyasCard.lean, 'card_holds'). Laid BY PROGRAM, IN A SANDBOX (cutbox-door.mjs). By AI agents, Wed Nov 11 2026. No macro, syntax, notation, axiom, sorry.
-/
import Derived.Test.YtcpeldgnabfdmaaDoorRows
import GoSem.ClaimSeven
namespace Go.Proofs.YtcpeldgnabfdmaaDoor
namespace Rows

/-- THE TIED CARD OF 'laws.FnExactStretchesOf'. -/
def fnExactStretchesOfCard : Claim7 := { stood := { row := fnExactStretchesOfRow, standIns := [], harness := (true, "b02ad6525ab5a6168548f3f2df5ac840bcc5f9d518ab94389cf5b164c091d707"), looks := false }, kinds := [], alts := [], laidByText := true, laidKinds := [.data, .pinned], laidTests := true, laidLooks := .later }
def FnExactStretchesOfCardSaid : Prop := Claim7.holds Tryd.pinned (.plain (OpenSpec.ofChange fnExactStretchesOfSpec)) fnExactStretchesOfCard

/-- THE TIED CARD OF 'laws.FnExactCountStill'. -/
def fnExactCountStillCard : Claim7 := { stood := { row := fnExactCountStillRow, standIns := [], harness := (true, "b02ad6525ab5a6168548f3f2df5ac840bcc5f9d518ab94389cf5b164c091d707"), looks := false }, kinds := [], alts := [], laidByText := true, laidKinds := [.data, .pinned], laidTests := true, laidLooks := .later }
def FnExactCountStillCardSaid : Prop := Claim7.holds Tryd.pinned (.plain (OpenSpec.ofChange fnExactCountStillSpec)) fnExactCountStillCard

/-- THE TIED CARD OF 'laws.FnExactCountStillWith'. -/
def fnExactCountStillWithCard : Claim7 := { stood := { row := fnExactCountStillWithRow, standIns := [], harness := (true, "b02ad6525ab5a6168548f3f2df5ac840bcc5f9d518ab94389cf5b164c091d707"), looks := false }, kinds := [], alts := [], laidByText := true, laidKinds := [.data, .pinned], laidTests := true, laidLooks := .later }
def FnExactCountStillWithCardSaid : Prop := Claim7.holds Tryd.pinned (.plain (OpenSpec.ofChange fnExactCountStillWithSpec)) fnExactCountStillWithCard

/-- THE TIED CARD OF 'laws.FnExactCountTilted'. -/
def fnExactCountTiltedCard : Claim7 := { stood := { row := fnExactCountTiltedRow, standIns := [], harness := (true, "b02ad6525ab5a6168548f3f2df5ac840bcc5f9d518ab94389cf5b164c091d707"), looks := false }, kinds := [], alts := [], laidByText := true, laidKinds := [.data, .pinned], laidTests := true, laidLooks := .later }
def FnExactCountTiltedCardSaid : Prop := Claim7.holds Tryd.pinned (.plain (OpenSpec.ofChange fnExactCountTiltedSpec)) fnExactCountTiltedCard

/-- THE TIED CARD OF 'laws.FnExactStillWays'. -/
def fnExactStillWaysCard : Claim7 := { stood := { row := fnExactStillWaysRow, standIns := [], harness := (true, "b02ad6525ab5a6168548f3f2df5ac840bcc5f9d518ab94389cf5b164c091d707"), looks := false }, kinds := [], alts := [], laidByText := true, laidKinds := [.data, .pinned], laidTests := true, laidLooks := .later }
def FnExactStillWaysCardSaid : Prop := Claim7.holds Tryd.pinned (.plain (OpenSpec.ofChange fnExactStillWaysSpec)) fnExactStillWaysCard

/-- THE SECOND FORM's CARD OF 'laws.FnExactStretchesOf'. -/
def fnExactStretchesOfUptoCard : Claim7 := { stood := { row := fnExactStretchesOfUptoRow, standIns := [], harness := (true, "b02ad6525ab5a6168548f3f2df5ac840bcc5f9d518ab94389cf5b164c091d707"), looks := false }, kinds := [], alts := [], laidByText := true, laidKinds := [.data, .pinned], laidTests := true, laidLooks := .later }
def FnExactStretchesOfUptoCardSaid : Prop := Claim7.holds Tryd.pinned (.plain (OpenSpec.upto fnExactStretchesOfSpec)) fnExactStretchesOfUptoCard

/-- THE SECOND FORM's CARD OF 'laws.FnExactCountStill'. -/
def fnExactCountStillUptoCard : Claim7 := { stood := { row := fnExactCountStillUptoRow, standIns := [], harness := (true, "b02ad6525ab5a6168548f3f2df5ac840bcc5f9d518ab94389cf5b164c091d707"), looks := false }, kinds := [], alts := [], laidByText := true, laidKinds := [.data, .pinned], laidTests := true, laidLooks := .later }
def FnExactCountStillUptoCardSaid : Prop := Claim7.holds Tryd.pinned (.plain (OpenSpec.upto fnExactCountStillSpec)) fnExactCountStillUptoCard

/-- THE SECOND FORM's CARD OF 'laws.FnExactCountStillWith'. -/
def fnExactCountStillWithUptoCard : Claim7 := { stood := { row := fnExactCountStillWithUptoRow, standIns := [], harness := (true, "b02ad6525ab5a6168548f3f2df5ac840bcc5f9d518ab94389cf5b164c091d707"), looks := false }, kinds := [], alts := [], laidByText := true, laidKinds := [.data, .pinned], laidTests := true, laidLooks := .later }
def FnExactCountStillWithUptoCardSaid : Prop := Claim7.holds Tryd.pinned (.plain (OpenSpec.upto fnExactCountStillWithSpec)) fnExactCountStillWithUptoCard

/-- THE SECOND FORM's CARD OF 'laws.FnExactCountTilted'. -/
def fnExactCountTiltedUptoCard : Claim7 := { stood := { row := fnExactCountTiltedUptoRow, standIns := [], harness := (true, "b02ad6525ab5a6168548f3f2df5ac840bcc5f9d518ab94389cf5b164c091d707"), looks := false }, kinds := [], alts := [], laidByText := true, laidKinds := [.data, .pinned], laidTests := true, laidLooks := .later }
def FnExactCountTiltedUptoCardSaid : Prop := Claim7.holds Tryd.pinned (.plain (OpenSpec.upto fnExactCountTiltedSpec)) fnExactCountTiltedUptoCard

/-- THE SECOND FORM's CARD OF 'laws.FnExactStillWays'. -/
def fnExactStillWaysUptoCard : Claim7 := { stood := { row := fnExactStillWaysUptoRow, standIns := [], harness := (true, "b02ad6525ab5a6168548f3f2df5ac840bcc5f9d518ab94389cf5b164c091d707"), looks := false }, kinds := [], alts := [], laidByText := true, laidKinds := [.data, .pinned], laidTests := true, laidLooks := .later }
def FnExactStillWaysUptoCardSaid : Prop := Claim7.holds Tryd.pinned (.plain (OpenSpec.upto fnExactStillWaysSpec)) fnExactStillWaysUptoCard
end Rows
end Go.Proofs.YtcpeldgnabfdmaaDoor
