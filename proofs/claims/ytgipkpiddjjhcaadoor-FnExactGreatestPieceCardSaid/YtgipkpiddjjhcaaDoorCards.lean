/-
  DERIVED. GIVEN WITH THE SEED: THE CARDS: each row of YtgipkpiddjjhcaaDoorRows.lean that lists a variable, with what it lists TIED to the program's text (the seventh form; the later family's looks); each row that meets fmt, with fmt's text TOLD by the authors' own Lean function (tested against real Go, not proved from fmt's source: count such statements apart). THE CARD IS WHAT COUNTS. Prove the row's statement (the work); the ties are given (YtgipkpiddjjhcaaDoorTie.lean); close each card by the builder's one call (the guide's Derived/Test/ToyasCard.lean, 'card_holds'). Laid BY PROGRAM, IN A SANDBOX (cutbox-door.mjs). By AI agents, Wed Nov 11 2026. No macro, syntax, notation, axiom, sorry.
-/
import Derived.Test.YtgipkpiddjjhcaaDoorRows
import GoSem.ClaimSeven
namespace Go.Proofs.YtgipkpiddjjhcaaDoor
namespace Rows

/-- THE TIED CARD OF 'laws.FnExactStickStep'. -/
def fnExactStickStepCard : Claim7 := { stood := { row := fnExactStickStepRow, standIns := [], harness := (true, "e09ee796f065e2ad6dfcc6e0e3582c4e4ecc4b5fc7eaba5d12233450ce7ebcbe"), looks := false }, kinds := [], alts := [], laidByText := true, laidKinds := [.data, .pinned], laidTests := true, laidLooks := .later }
def FnExactStickStepCardSaid : Prop := Claim7.holds Tryd.pinned (.plain (OpenSpec.ofChange fnExactStickStepSpec)) fnExactStickStepCard

/-- THE TIED CARD OF 'laws.FnExactStickMoves'. -/
def fnExactStickMovesCard : Claim7 := { stood := { row := fnExactStickMovesRow, standIns := [], harness := (true, "e09ee796f065e2ad6dfcc6e0e3582c4e4ecc4b5fc7eaba5d12233450ce7ebcbe"), looks := false }, kinds := [], alts := [], laidByText := true, laidKinds := [.data, .pinned], laidTests := true, laidLooks := .later }
def FnExactStickMovesCardSaid : Prop := Claim7.holds Tryd.pinned (.plain (OpenSpec.ofChange fnExactStickMovesSpec)) fnExactStickMovesCard

/-- THE TIED CARD OF 'laws.FnExactStickStill'. -/
def fnExactStickStillCard : Claim7 := { stood := { row := fnExactStickStillRow, standIns := [], harness := (true, "e09ee796f065e2ad6dfcc6e0e3582c4e4ecc4b5fc7eaba5d12233450ce7ebcbe"), looks := false }, kinds := [], alts := [], laidByText := true, laidKinds := [.data, .pinned], laidTests := true, laidLooks := .later }
def FnExactStickStillCardSaid : Prop := Claim7.holds Tryd.pinned (.plain (OpenSpec.ofChange fnExactStickStillSpec)) fnExactStickStillCard

/-- THE TIED CARD OF 'laws.FnExactGreatestPiece'. -/
def fnExactGreatestPieceCard : Claim7 := { stood := { row := fnExactGreatestPieceRow, standIns := [], harness := (true, "e09ee796f065e2ad6dfcc6e0e3582c4e4ecc4b5fc7eaba5d12233450ce7ebcbe"), looks := false }, kinds := [], alts := [], laidByText := true, laidKinds := [.data, .pinned], laidTests := true, laidLooks := .later }
def FnExactGreatestPieceCardSaid : Prop := Claim7.holds Tryd.pinned (.plain (OpenSpec.ofChange fnExactGreatestPieceSpec)) fnExactGreatestPieceCard

/-- THE TIED CARD OF 'laws.FnExactStickTilt'. -/
def fnExactStickTiltCard : Claim7 := { stood := { row := fnExactStickTiltRow, standIns := [], harness := (true, "e09ee796f065e2ad6dfcc6e0e3582c4e4ecc4b5fc7eaba5d12233450ce7ebcbe"), looks := false }, kinds := [], alts := [], laidByText := true, laidKinds := [.data, .pinned], laidTests := true, laidLooks := .later }
def FnExactStickTiltCardSaid : Prop := Claim7.holds Tryd.pinned (.plain (OpenSpec.ofChange fnExactStickTiltSpec)) fnExactStickTiltCard

/-- THE TIED CARD OF 'laws.FnExactStickWord'. -/
def fnExactStickWordCard : Claim7 := { stood := { row := fnExactStickWordRow, standIns := [], harness := (true, "e09ee796f065e2ad6dfcc6e0e3582c4e4ecc4b5fc7eaba5d12233450ce7ebcbe"), looks := false }, kinds := [], alts := [], laidByText := true, laidKinds := [.data, .pinned], laidTests := true, laidLooks := .later }
def FnExactStickWordCardSaid : Prop := Claim7.holds Tryd.pinned (.plain (OpenSpec.ofChange fnExactStickWordSpec)) fnExactStickWordCard

/-- THE TIED CARD OF 'laws.FnExactWordToOne'. -/
def fnExactWordToOneCard : Claim7 := { stood := { row := fnExactWordToOneRow, standIns := [], harness := (true, "e09ee796f065e2ad6dfcc6e0e3582c4e4ecc4b5fc7eaba5d12233450ce7ebcbe"), looks := false }, kinds := [], alts := [], laidByText := true, laidKinds := [.data, .pinned], laidTests := true, laidLooks := .later }
def FnExactWordToOneCardSaid : Prop := Claim7.holds Tryd.pinned (.plain (OpenSpec.ofChange fnExactWordToOneSpec)) fnExactWordToOneCard

/-- THE SECOND FORM's CARD OF 'laws.FnExactStickStep'. -/
def fnExactStickStepUptoCard : Claim7 := { stood := { row := fnExactStickStepUptoRow, standIns := [], harness := (true, "e09ee796f065e2ad6dfcc6e0e3582c4e4ecc4b5fc7eaba5d12233450ce7ebcbe"), looks := false }, kinds := [], alts := [], laidByText := true, laidKinds := [.data, .pinned], laidTests := true, laidLooks := .later }
def FnExactStickStepUptoCardSaid : Prop := Claim7.holds Tryd.pinned (.plain (OpenSpec.upto fnExactStickStepSpec)) fnExactStickStepUptoCard

/-- THE SECOND FORM's CARD OF 'laws.FnExactStickMoves'. -/
def fnExactStickMovesUptoCard : Claim7 := { stood := { row := fnExactStickMovesUptoRow, standIns := [], harness := (true, "e09ee796f065e2ad6dfcc6e0e3582c4e4ecc4b5fc7eaba5d12233450ce7ebcbe"), looks := false }, kinds := [], alts := [], laidByText := true, laidKinds := [.data, .pinned], laidTests := true, laidLooks := .later }
def FnExactStickMovesUptoCardSaid : Prop := Claim7.holds Tryd.pinned (.plain (OpenSpec.upto fnExactStickMovesSpec)) fnExactStickMovesUptoCard

/-- THE SECOND FORM's CARD OF 'laws.FnExactStickStill'. -/
def fnExactStickStillUptoCard : Claim7 := { stood := { row := fnExactStickStillUptoRow, standIns := [], harness := (true, "e09ee796f065e2ad6dfcc6e0e3582c4e4ecc4b5fc7eaba5d12233450ce7ebcbe"), looks := false }, kinds := [], alts := [], laidByText := true, laidKinds := [.data, .pinned], laidTests := true, laidLooks := .later }
def FnExactStickStillUptoCardSaid : Prop := Claim7.holds Tryd.pinned (.plain (OpenSpec.upto fnExactStickStillSpec)) fnExactStickStillUptoCard

/-- THE SECOND FORM's CARD OF 'laws.FnExactGreatestPiece'. -/
def fnExactGreatestPieceUptoCard : Claim7 := { stood := { row := fnExactGreatestPieceUptoRow, standIns := [], harness := (true, "e09ee796f065e2ad6dfcc6e0e3582c4e4ecc4b5fc7eaba5d12233450ce7ebcbe"), looks := false }, kinds := [], alts := [], laidByText := true, laidKinds := [.data, .pinned], laidTests := true, laidLooks := .later }
def FnExactGreatestPieceUptoCardSaid : Prop := Claim7.holds Tryd.pinned (.plain (OpenSpec.upto fnExactGreatestPieceSpec)) fnExactGreatestPieceUptoCard

/-- THE SECOND FORM's CARD OF 'laws.FnExactStickTilt'. -/
def fnExactStickTiltUptoCard : Claim7 := { stood := { row := fnExactStickTiltUptoRow, standIns := [], harness := (true, "e09ee796f065e2ad6dfcc6e0e3582c4e4ecc4b5fc7eaba5d12233450ce7ebcbe"), looks := false }, kinds := [], alts := [], laidByText := true, laidKinds := [.data, .pinned], laidTests := true, laidLooks := .later }
def FnExactStickTiltUptoCardSaid : Prop := Claim7.holds Tryd.pinned (.plain (OpenSpec.upto fnExactStickTiltSpec)) fnExactStickTiltUptoCard

/-- THE SECOND FORM's CARD OF 'laws.FnExactStickWord'. -/
def fnExactStickWordUptoCard : Claim7 := { stood := { row := fnExactStickWordUptoRow, standIns := [], harness := (true, "e09ee796f065e2ad6dfcc6e0e3582c4e4ecc4b5fc7eaba5d12233450ce7ebcbe"), looks := false }, kinds := [], alts := [], laidByText := true, laidKinds := [.data, .pinned], laidTests := true, laidLooks := .later }
def FnExactStickWordUptoCardSaid : Prop := Claim7.holds Tryd.pinned (.plain (OpenSpec.upto fnExactStickWordSpec)) fnExactStickWordUptoCard

/-- THE SECOND FORM's CARD OF 'laws.FnExactWordToOne'. -/
def fnExactWordToOneUptoCard : Claim7 := { stood := { row := fnExactWordToOneUptoRow, standIns := [], harness := (true, "e09ee796f065e2ad6dfcc6e0e3582c4e4ecc4b5fc7eaba5d12233450ce7ebcbe"), looks := false }, kinds := [], alts := [], laidByText := true, laidKinds := [.data, .pinned], laidTests := true, laidLooks := .later }
def FnExactWordToOneUptoCardSaid : Prop := Claim7.holds Tryd.pinned (.plain (OpenSpec.upto fnExactWordToOneSpec)) fnExactWordToOneUptoCard
end Rows
end Go.Proofs.YtgipkpiddjjhcaaDoor
