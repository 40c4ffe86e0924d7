/-
  DERIVED. GIVEN WITH THE SEED: THE CARDS: each row of YtfkcgpiemgcceaaDoorRows.lean that lists a variable, with what it lists TIED to the program's text (the seventh form; the later family's looks); each row that meets fmt, with fmt's text TOLD by the authors' own Lean function (tested against real Go, not proved from fmt's source: count such statements apart). THE CARD IS WHAT COUNTS. Prove the row's statement (the work); the ties are given (YtfkcgpiemgcceaaDoorTie.lean); close each card by the builder's one call (the guide's Derived/Test/ToyasCard.lean, 'card_holds'). Laid BY PROGRAM, IN A SANDBOX (cutbox-door.mjs). By AI agents, Wed Nov 11 2026. No macro, syntax, notation, axiom, sorry.
-/
import Derived.Test.YtfkcgpiemgcceaaDoorRows
import GoSem.ClaimSeven
namespace Go.Proofs.YtfkcgpiemgcceaaDoor
namespace Rows

/-- THE TIED CARD OF 'laws.FnExactCellsOfForm'. -/
def fnExactCellsOfFormCard : Claim7 := { stood := { row := fnExactCellsOfFormRow, standIns := [], harness := (true, "89a50dfb12ed7113e3b806d1d1dcb877cd478a79ef5d834da812fae02558f372"), looks := false }, kinds := [], alts := [], laidByText := true, laidKinds := [.data, .pinned], laidTests := true, laidLooks := .later }
def FnExactCellsOfFormCardSaid : Prop := Claim7.holds Tryd.pinned (.plain (OpenSpec.ofChange fnExactCellsOfFormSpec)) fnExactCellsOfFormCard

/-- THE SECOND FORM's CARD OF 'laws.FnExactCellsOfForm'. -/
def fnExactCellsOfFormUptoCard : Claim7 := { stood := { row := fnExactCellsOfFormUptoRow, standIns := [], harness := (true, "89a50dfb12ed7113e3b806d1d1dcb877cd478a79ef5d834da812fae02558f372"), looks := false }, kinds := [], alts := [], laidByText := true, laidKinds := [.data, .pinned], laidTests := true, laidLooks := .later }
def FnExactCellsOfFormUptoCardSaid : Prop := Claim7.holds Tryd.pinned (.plain (OpenSpec.upto fnExactCellsOfFormSpec)) fnExactCellsOfFormUptoCard
end Rows
end Go.Proofs.YtfkcgpiemgcceaaDoor
