/-
  DERIVED. GIVEN WITH THE SEED: THE CARDS: each row of YtmefnfhghfemgaaDoorRows.lean that lists a variable, with what it lists TIED to the program's text (the seventh form; the later family's looks); each row that meets fmt, with fmt's text TOLD by the authors' own Lean function (tested against real Go, not proved from fmt's source: count such statements apart). THE CARD IS WHAT COUNTS. Prove the row's statement (the work); the ties are given (YtmefnfhghfemgaaDoorTie.lean); close each card by the builder's one call (the guide's Derived/Test/ToyasCard.lean, 'card_holds'). Laid BY PROGRAM, IN A SANDBOX (cutbox-door.mjs). By AI agents, Wed Nov 11 2026. No macro, syntax, notation, axiom, sorry.
-/
import Derived.Test.YtmefnfhghfemgaaDoorRows
import GoSem.ClaimSeven
namespace Go.Proofs.YtmefnfhghfemgaaDoor
namespace Rows

/-- THE TIED CARD OF 'laws.FnExactShapeOf'. -/
def fnExactShapeOfCard : Claim7 := { stood := { row := fnExactShapeOfRow, standIns := [], harness := (true, "c731e057f17a0670590439912c5cd667f6a80837802a15bae6151befffa4298f"), looks := false }, kinds := [], alts := [], laidByText := true, laidKinds := [.data, .pinned], laidTests := true, laidLooks := .later }
def FnExactShapeOfCardSaid : Prop := Claim7.holds Tryd.pinned (.plain (OpenSpec.ofChange fnExactShapeOfSpec)) fnExactShapeOfCard

/-- THE TIED CARD OF 'laws.FnExactCountOrders'. -/
def fnExactCountOrdersCard : Claim7 := { stood := { row := fnExactCountOrdersRow, standIns := [], harness := (true, "c731e057f17a0670590439912c5cd667f6a80837802a15bae6151befffa4298f"), looks := false }, kinds := [], alts := [], laidByText := true, laidKinds := [.data, .pinned], laidTests := true, laidLooks := .later }
def FnExactCountOrdersCardSaid : Prop := Claim7.holds Tryd.pinned (.plain (OpenSpec.ofChange fnExactCountOrdersSpec)) fnExactCountOrdersCard

/-- THE TIED CARD OF 'laws.FnExactCanBuild'. -/
def fnExactCanBuildCard : Claim7 := { stood := { row := fnExactCanBuildRow, standIns := [], harness := (true, "c731e057f17a0670590439912c5cd667f6a80837802a15bae6151befffa4298f"), looks := false }, kinds := [], alts := [], laidByText := true, laidKinds := [.data, .pinned], laidTests := true, laidLooks := .later }
def FnExactCanBuildCardSaid : Prop := Claim7.holds Tryd.pinned (.plain (OpenSpec.ofChange fnExactCanBuildSpec)) fnExactCanBuildCard

/-- THE TIED CARD OF 'laws.FnExactCountFromCell'. -/
def fnExactCountFromCellCard : Claim7 := { stood := { row := fnExactCountFromCellRow, standIns := [], harness := (true, "c731e057f17a0670590439912c5cd667f6a80837802a15bae6151befffa4298f"), looks := false }, kinds := [], alts := [], laidByText := true, laidKinds := [.data, .pinned], laidTests := true, laidLooks := .later }
def FnExactCountFromCellCardSaid : Prop := Claim7.holds Tryd.pinned (.plain (OpenSpec.ofChange fnExactCountFromCellSpec)) fnExactCountFromCellCard

/-- THE TIED CARD OF 'laws.FnExactFirstOrder'. -/
def fnExactFirstOrderCard : Claim7 := { stood := { row := fnExactFirstOrderRow, standIns := [], harness := (true, "c731e057f17a0670590439912c5cd667f6a80837802a15bae6151befffa4298f"), looks := false }, kinds := [], alts := [], laidByText := true, laidKinds := [.data, .pinned], laidTests := true, laidLooks := .later }
def FnExactFirstOrderCardSaid : Prop := Claim7.holds Tryd.pinned (.plain (OpenSpec.ofChange fnExactFirstOrderSpec)) fnExactFirstOrderCard

/-- THE TIED CARD OF 'laws.FnExactCountFull'. -/
def fnExactCountFullCard : Claim7 := { stood := { row := fnExactCountFullRow, standIns := [], harness := (true, "c731e057f17a0670590439912c5cd667f6a80837802a15bae6151befffa4298f"), looks := false }, kinds := [], alts := [], laidByText := true, laidKinds := [.data, .pinned], laidTests := true, laidLooks := .later }
def FnExactCountFullCardSaid : Prop := Claim7.holds Tryd.pinned (.plain (OpenSpec.ofChange fnExactCountFullSpec)) fnExactCountFullCard

/-- THE SECOND FORM's CARD OF 'laws.FnExactShapeOf'. -/
def fnExactShapeOfUptoCard : Claim7 := { stood := { row := fnExactShapeOfUptoRow, standIns := [], harness := (true, "c731e057f17a0670590439912c5cd667f6a80837802a15bae6151befffa4298f"), looks := false }, kinds := [], alts := [], laidByText := true, laidKinds := [.data, .pinned], laidTests := true, laidLooks := .later }
def FnExactShapeOfUptoCardSaid : Prop := Claim7.holds Tryd.pinned (.plain (OpenSpec.upto fnExactShapeOfSpec)) fnExactShapeOfUptoCard

/-- THE SECOND FORM's CARD OF 'laws.FnExactCountOrders'. -/
def fnExactCountOrdersUptoCard : Claim7 := { stood := { row := fnExactCountOrdersUptoRow, standIns := [], harness := (true, "c731e057f17a0670590439912c5cd667f6a80837802a15bae6151befffa4298f"), looks := false }, kinds := [], alts := [], laidByText := true, laidKinds := [.data, .pinned], laidTests := true, laidLooks := .later }
def FnExactCountOrdersUptoCardSaid : Prop := Claim7.holds Tryd.pinned (.plain (OpenSpec.upto fnExactCountOrdersSpec)) fnExactCountOrdersUptoCard

/-- THE SECOND FORM's CARD OF 'laws.FnExactCanBuild'. -/
def fnExactCanBuildUptoCard : Claim7 := { stood := { row := fnExactCanBuildUptoRow, standIns := [], harness := (true, "c731e057f17a0670590439912c5cd667f6a80837802a15bae6151befffa4298f"), looks := false }, kinds := [], alts := [], laidByText := true, laidKinds := [.data, .pinned], laidTests := true, laidLooks := .later }
def FnExactCanBuildUptoCardSaid : Prop := Claim7.holds Tryd.pinned (.plain (OpenSpec.upto fnExactCanBuildSpec)) fnExactCanBuildUptoCard

/-- THE SECOND FORM's CARD OF 'laws.FnExactCountFromCell'. -/
def fnExactCountFromCellUptoCard : Claim7 := { stood := { row := fnExactCountFromCellUptoRow, standIns := [], harness := (true, "c731e057f17a0670590439912c5cd667f6a80837802a15bae6151befffa4298f"), looks := false }, kinds := [], alts := [], laidByText := true, laidKinds := [.data, .pinned], laidTests := true, laidLooks := .later }
def FnExactCountFromCellUptoCardSaid : Prop := Claim7.holds Tryd.pinned (.plain (OpenSpec.upto fnExactCountFromCellSpec)) fnExactCountFromCellUptoCard

/-- THE SECOND FORM's CARD OF 'laws.FnExactFirstOrder'. -/
def fnExactFirstOrderUptoCard : Claim7 := { stood := { row := fnExactFirstOrderUptoRow, standIns := [], harness := (true, "c731e057f17a0670590439912c5cd667f6a80837802a15bae6151befffa4298f"), looks := false }, kinds := [], alts := [], laidByText := true, laidKinds := [.data, .pinned], laidTests := true, laidLooks := .later }
def FnExactFirstOrderUptoCardSaid : Prop := Claim7.holds Tryd.pinned (.plain (OpenSpec.upto fnExactFirstOrderSpec)) fnExactFirstOrderUptoCard

/-- THE SECOND FORM's CARD OF 'laws.FnExactCountFull'. -/
def fnExactCountFullUptoCard : Claim7 := { stood := { row := fnExactCountFullUptoRow, standIns := [], harness := (true, "c731e057f17a0670590439912c5cd667f6a80837802a15bae6151befffa4298f"), looks := false }, kinds := [], alts := [], laidByText := true, laidKinds := [.data, .pinned], laidTests := true, laidLooks := .later }
def FnExactCountFullUptoCardSaid : Prop := Claim7.holds Tryd.pinned (.plain (OpenSpec.upto fnExactCountFullSpec)) fnExactCountFullUptoCard
end Rows
end Go.Proofs.YtmefnfhghfemgaaDoor
