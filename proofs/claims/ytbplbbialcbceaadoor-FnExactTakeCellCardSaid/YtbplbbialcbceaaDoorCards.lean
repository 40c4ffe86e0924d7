/-
  DERIVED. GIVEN WITH THE SEED: THE CARDS: each row of YtbplbbialcbceaaDoorRows.lean that lists a variable, with what it lists TIED to the program's text (the seventh form; the later family's looks); each row that meets fmt, with fmt's text TOLD by the authors' own Lean function (tested against real Go, not proved from fmt's source: count such statements apart). THE CARD IS WHAT COUNTS. Prove the row's statement (the work); the ties are given (YtbplbbialcbceaaDoorTie.lean); close each card by the builder's one call (the guide's Derived/Test/ToyasCard.lean, 'card_holds'). Laid BY PROGRAM, IN A SANDBOX (cutbox-door.mjs). By AI agents, Wed Nov 11 2026. No macro, syntax, notation, axiom, sorry.
-/
import Derived.Test.YtbplbbialcbceaaDoorRows
import GoSem.ClaimSeven
namespace Go.Proofs.YtbplbbialcbceaaDoor
namespace Rows

/-- THE TIED CARD OF 'laws.FnExactPieceAt'. -/
def fnExactPieceAtCard : Claim7 := { stood := { row := fnExactPieceAtRow, standIns := [], harness := (true, "5101d062ab9bf7c5504e0d8bef474963bd6ca4e7d63066f2a4bb0c3b90058b04"), looks := false }, kinds := [], alts := [], laidByText := true, laidKinds := [.data, .pinned], laidTests := true, laidLooks := .later }
def FnExactPieceAtCardSaid : Prop := Claim7.holds Tryd.pinned (.plain (OpenSpec.ofChange fnExactPieceAtSpec)) fnExactPieceAtCard

/-- THE TIED CARD OF 'laws.FnExactTurnForm'. -/
def fnExactTurnFormCard : Claim7 := { stood := { row := fnExactTurnFormRow, standIns := [], harness := (true, "5101d062ab9bf7c5504e0d8bef474963bd6ca4e7d63066f2a4bb0c3b90058b04"), looks := false }, kinds := [], alts := [], laidByText := true, laidKinds := [.data, .pinned], laidTests := true, laidLooks := .later }
def FnExactTurnFormCardSaid : Prop := Claim7.holds Tryd.pinned (.plain (OpenSpec.ofChange fnExactTurnFormSpec)) fnExactTurnFormCard

/-- THE TIED CARD OF 'laws.FnExactFreeWays'. -/
def fnExactFreeWaysCard : Claim7 := { stood := { row := fnExactFreeWaysRow, standIns := [], harness := (true, "5101d062ab9bf7c5504e0d8bef474963bd6ca4e7d63066f2a4bb0c3b90058b04"), looks := false }, kinds := [], alts := [], laidByText := true, laidKinds := [.data, .pinned], laidTests := true, laidLooks := .later }
def FnExactFreeWaysCardSaid : Prop := Claim7.holds Tryd.pinned (.plain (OpenSpec.ofChange fnExactFreeWaysSpec)) fnExactFreeWaysCard

/-- THE TIED CARD OF 'laws.FnExactBlockedPieces'. -/
def fnExactBlockedPiecesCard : Claim7 := { stood := { row := fnExactBlockedPiecesRow, standIns := [], harness := (true, "5101d062ab9bf7c5504e0d8bef474963bd6ca4e7d63066f2a4bb0c3b90058b04"), looks := false }, kinds := [], alts := [], laidByText := true, laidKinds := [.data, .pinned], laidTests := true, laidLooks := .later }
def FnExactBlockedPiecesCardSaid : Prop := Claim7.holds Tryd.pinned (.plain (OpenSpec.ofChange fnExactBlockedPiecesSpec)) fnExactBlockedPiecesCard

/-- THE TIED CARD OF 'laws.FnExactCanAdd'. -/
def fnExactCanAddCard : Claim7 := { stood := { row := fnExactCanAddRow, standIns := [], harness := (true, "5101d062ab9bf7c5504e0d8bef474963bd6ca4e7d63066f2a4bb0c3b90058b04"), looks := false }, kinds := [], alts := [], laidByText := true, laidKinds := [.data, .pinned], laidTests := true, laidLooks := .later }
def FnExactCanAddCardSaid : Prop := Claim7.holds Tryd.pinned (.plain (OpenSpec.ofChange fnExactCanAddSpec)) fnExactCanAddCard

/-- THE TIED CARD OF 'laws.FnExactAddCell'. -/
def fnExactAddCellCard : Claim7 := { stood := { row := fnExactAddCellRow, standIns := [], harness := (true, "5101d062ab9bf7c5504e0d8bef474963bd6ca4e7d63066f2a4bb0c3b90058b04"), looks := false }, kinds := [], alts := [], laidByText := true, laidKinds := [.data, .pinned], laidTests := true, laidLooks := .later }
def FnExactAddCellCardSaid : Prop := Claim7.holds Tryd.pinned (.plain (OpenSpec.ofChange fnExactAddCellSpec)) fnExactAddCellCard

/-- THE TIED CARD OF 'laws.FnExactTakeCell'. -/
def fnExactTakeCellCard : Claim7 := { stood := { row := fnExactTakeCellRow, standIns := [], harness := (true, "5101d062ab9bf7c5504e0d8bef474963bd6ca4e7d63066f2a4bb0c3b90058b04"), looks := false }, kinds := [], alts := [], laidByText := true, laidKinds := [.data, .pinned], laidTests := true, laidLooks := .later }
def FnExactTakeCellCardSaid : Prop := Claim7.holds Tryd.pinned (.plain (OpenSpec.ofChange fnExactTakeCellSpec)) fnExactTakeCellCard

/-- THE SECOND FORM's CARD OF 'laws.FnExactPieceAt'. -/
def fnExactPieceAtUptoCard : Claim7 := { stood := { row := fnExactPieceAtUptoRow, standIns := [], harness := (true, "5101d062ab9bf7c5504e0d8bef474963bd6ca4e7d63066f2a4bb0c3b90058b04"), looks := false }, kinds := [], alts := [], laidByText := true, laidKinds := [.data, .pinned], laidTests := true, laidLooks := .later }
def FnExactPieceAtUptoCardSaid : Prop := Claim7.holds Tryd.pinned (.plain (OpenSpec.upto fnExactPieceAtSpec)) fnExactPieceAtUptoCard

/-- THE SECOND FORM's CARD OF 'laws.FnExactTurnForm'. -/
def fnExactTurnFormUptoCard : Claim7 := { stood := { row := fnExactTurnFormUptoRow, standIns := [], harness := (true, "5101d062ab9bf7c5504e0d8bef474963bd6ca4e7d63066f2a4bb0c3b90058b04"), looks := false }, kinds := [], alts := [], laidByText := true, laidKinds := [.data, .pinned], laidTests := true, laidLooks := .later }
def FnExactTurnFormUptoCardSaid : Prop := Claim7.holds Tryd.pinned (.plain (OpenSpec.upto fnExactTurnFormSpec)) fnExactTurnFormUptoCard

/-- THE SECOND FORM's CARD OF 'laws.FnExactFreeWays'. -/
def fnExactFreeWaysUptoCard : Claim7 := { stood := { row := fnExactFreeWaysUptoRow, standIns := [], harness := (true, "5101d062ab9bf7c5504e0d8bef474963bd6ca4e7d63066f2a4bb0c3b90058b04"), looks := false }, kinds := [], alts := [], laidByText := true, laidKinds := [.data, .pinned], laidTests := true, laidLooks := .later }
def FnExactFreeWaysUptoCardSaid : Prop := Claim7.holds Tryd.pinned (.plain (OpenSpec.upto fnExactFreeWaysSpec)) fnExactFreeWaysUptoCard

/-- THE SECOND FORM's CARD OF 'laws.FnExactBlockedPieces'. -/
def fnExactBlockedPiecesUptoCard : Claim7 := { stood := { row := fnExactBlockedPiecesUptoRow, standIns := [], harness := (true, "5101d062ab9bf7c5504e0d8bef474963bd6ca4e7d63066f2a4bb0c3b90058b04"), looks := false }, kinds := [], alts := [], laidByText := true, laidKinds := [.data, .pinned], laidTests := true, laidLooks := .later }
def FnExactBlockedPiecesUptoCardSaid : Prop := Claim7.holds Tryd.pinned (.plain (OpenSpec.upto fnExactBlockedPiecesSpec)) fnExactBlockedPiecesUptoCard

/-- THE SECOND FORM's CARD OF 'laws.FnExactCanAdd'. -/
def fnExactCanAddUptoCard : Claim7 := { stood := { row := fnExactCanAddUptoRow, standIns := [], harness := (true, "5101d062ab9bf7c5504e0d8bef474963bd6ca4e7d63066f2a4bb0c3b90058b04"), looks := false }, kinds := [], alts := [], laidByText := true, laidKinds := [.data, .pinned], laidTests := true, laidLooks := .later }
def FnExactCanAddUptoCardSaid : Prop := Claim7.holds Tryd.pinned (.plain (OpenSpec.upto fnExactCanAddSpec)) fnExactCanAddUptoCard

/-- THE SECOND FORM's CARD OF 'laws.FnExactAddCell'. -/
def fnExactAddCellUptoCard : Claim7 := { stood := { row := fnExactAddCellUptoRow, standIns := [], harness := (true, "5101d062ab9bf7c5504e0d8bef474963bd6ca4e7d63066f2a4bb0c3b90058b04"), looks := false }, kinds := [], alts := [], laidByText := true, laidKinds := [.data, .pinned], laidTests := true, laidLooks := .later }
def FnExactAddCellUptoCardSaid : Prop := Claim7.holds Tryd.pinned (.plain (OpenSpec.upto fnExactAddCellSpec)) fnExactAddCellUptoCard

/-- THE SECOND FORM's CARD OF 'laws.FnExactTakeCell'. -/
def fnExactTakeCellUptoCard : Claim7 := { stood := { row := fnExactTakeCellUptoRow, standIns := [], harness := (true, "5101d062ab9bf7c5504e0d8bef474963bd6ca4e7d63066f2a4bb0c3b90058b04"), looks := false }, kinds := [], alts := [], laidByText := true, laidKinds := [.data, .pinned], laidTests := true, laidLooks := .later }
def FnExactTakeCellUptoCardSaid : Prop := Claim7.holds Tryd.pinned (.plain (OpenSpec.upto fnExactTakeCellSpec)) fnExactTakeCellUptoCard
end Rows
end Go.Proofs.YtbplbbialcbceaaDoor
