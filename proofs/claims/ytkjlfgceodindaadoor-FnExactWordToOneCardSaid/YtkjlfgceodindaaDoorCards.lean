/-
  DERIVED. GIVEN WITH THE SEED: THE CARDS: each row of YtkjlfgceodindaaDoorRows.lean that lists a variable, with what it lists TIED to the program's text (the seventh form; the later family's looks); each row that meets fmt, with fmt's text TOLD by the authors' own Lean function (tested against real Go, not proved from fmt's source: count such statements apart). THE CARD IS WHAT COUNTS. Prove the row's statement (the work); the ties are given (YtkjlfgceodindaaDoorTie.lean); close each card by the builder's one call (the guide's Derived/Test/ToyasCard.lean, 'card_holds'). Laid BY PROGRAM, IN A SANDBOX (cutbox-door.mjs). By AI agents, Wed Nov 11 2026. No macro, syntax, notation, axiom, sorry.
-/
import Derived.Test.YtkjlfgceodindaaDoorRows
import GoSem.ClaimSeven
namespace Go.Proofs.YtkjlfgceodindaaDoor
namespace Rows

/-- THE TIED CARD OF 'laws.FnExactGreatestPiece'. -/
def fnExactGreatestPieceCard : Claim7 := { stood := { row := fnExactGreatestPieceRow, standIns := [], harness := (true, "7a0583a1708e9675664d3a5611968b9efc4a7e17242deff2dbf140d51186dcc7"), looks := false }, kinds := [], alts := [], laidByText := true, laidKinds := [.data, .pinned], laidTests := true, laidLooks := .later }
def FnExactGreatestPieceCardSaid : Prop := Claim7.holds Tryd.pinned (.plain (OpenSpec.ofChange fnExactGreatestPieceSpec)) fnExactGreatestPieceCard

/-- THE TIED CARD OF 'laws.FnExactWordToOne'. -/
def fnExactWordToOneCard : Claim7 := { stood := { row := fnExactWordToOneRow, standIns := [], harness := (true, "7a0583a1708e9675664d3a5611968b9efc4a7e17242deff2dbf140d51186dcc7"), looks := false }, kinds := [], alts := [], laidByText := true, laidKinds := [.data, .pinned], laidTests := true, laidLooks := .later }
def FnExactWordToOneCardSaid : Prop := Claim7.holds Tryd.pinned (.plain (OpenSpec.ofChange fnExactWordToOneSpec)) fnExactWordToOneCard

/-- THE SECOND FORM's CARD OF 'laws.FnExactGreatestPiece'. -/
def fnExactGreatestPieceUptoCard : Claim7 := { stood := { row := fnExactGreatestPieceUptoRow, standIns := [], harness := (true, "7a0583a1708e9675664d3a5611968b9efc4a7e17242deff2dbf140d51186dcc7"), looks := false }, kinds := [], alts := [], laidByText := true, laidKinds := [.data, .pinned], laidTests := true, laidLooks := .later }
def FnExactGreatestPieceUptoCardSaid : Prop := Claim7.holds Tryd.pinned (.plain (OpenSpec.upto fnExactGreatestPieceSpec)) fnExactGreatestPieceUptoCard

/-- THE SECOND FORM's CARD OF 'laws.FnExactWordToOne'. -/
def fnExactWordToOneUptoCard : Claim7 := { stood := { row := fnExactWordToOneUptoRow, standIns := [], harness := (true, "7a0583a1708e9675664d3a5611968b9efc4a7e17242deff2dbf140d51186dcc7"), looks := false }, kinds := [], alts := [], laidByText := true, laidKinds := [.data, .pinned], laidTests := true, laidLooks := .later }
def FnExactWordToOneUptoCardSaid : Prop := Claim7.holds Tryd.pinned (.plain (OpenSpec.upto fnExactWordToOneSpec)) fnExactWordToOneUptoCard
end Rows
end Go.Proofs.YtkjlfgceodindaaDoor
