/-
  DERIVED. GIVEN WITH THE SEED: THE CARDS: each row of YtchjgphnglklcaaGreatDoorRows.lean that lists a variable, with what it lists TIED to the program's text (the seventh form; the later family's looks); each row that meets fmt, with fmt's text TOLD by the authors' own Lean function (tested against real Go, not proved from fmt's source: count such statements apart). THE CARD IS WHAT COUNTS. Prove the row's statement (the work); the ties are given (YtchjgphnglklcaaGreatDoorTie.lean); close each card by the builder's one call (the guide's Derived/Test/ToyasCard.lean, 'card_holds'). Laid BY PROGRAM, IN A SANDBOX (cutbox-door.mjs). By AI agents, Wed Nov 11 2026. No macro, syntax, notation, axiom, sorry.
-/
import Derived.Test.YtchjgphnglklcaaGreatDoorRows
import GoSem.ClaimSeven
namespace Go.Proofs.YtchjgphnglklcaaGreatDoor
namespace Rows

/-- THE TIED CARD OF 'laws.FnExactWordToCell'. -/
def fnExactWordToCellCard : Claim7 := { stood := { row := fnExactWordToCellRow, standIns := [], harness := (true, "66182615e0aca525bf2b047675b5d26fa69f08fac0b2b98cdf4e2767678464c9"), looks := false }, kinds := [], alts := [], laidByText := true, laidKinds := [.data, .pinned], laidTests := true, laidLooks := .later }
def FnExactWordToCellCardSaid : Prop := Claim7.holds Tryz.pinned (.plain (OpenSpec.ofChange fnExactWordToCellSpec)) fnExactWordToCellCard

/-- THE TIED CARD OF 'laws.FnExactIsReached'. -/
def fnExactIsReachedCard : Claim7 := { stood := { row := fnExactIsReachedRow, standIns := [], harness := (true, "66182615e0aca525bf2b047675b5d26fa69f08fac0b2b98cdf4e2767678464c9"), looks := false }, kinds := [], alts := [], laidByText := true, laidKinds := [.data, .pinned], laidTests := true, laidLooks := .later }
def FnExactIsReachedCardSaid : Prop := Claim7.holds Tryz.pinned (.plain (OpenSpec.ofChange fnExactIsReachedSpec)) fnExactIsReachedCard

/-- THE TIED CARD OF 'laws.FnExactDistanceTo'. -/
def fnExactDistanceToCard : Claim7 := { stood := { row := fnExactDistanceToRow, standIns := [], harness := (true, "66182615e0aca525bf2b047675b5d26fa69f08fac0b2b98cdf4e2767678464c9"), looks := false }, kinds := [], alts := [], laidByText := true, laidKinds := [.data, .pinned], laidTests := true, laidLooks := .later }
def FnExactDistanceToCardSaid : Prop := Claim7.holds Tryz.pinned (.plain (OpenSpec.ofChange fnExactDistanceToSpec)) fnExactDistanceToCard

/-- THE TIED CARD OF 'laws.FnExactCountShortest'. -/
def fnExactCountShortestCard : Claim7 := { stood := { row := fnExactCountShortestRow, standIns := [], harness := (true, "66182615e0aca525bf2b047675b5d26fa69f08fac0b2b98cdf4e2767678464c9"), looks := false }, kinds := [], alts := [], laidByText := true, laidKinds := [.data, .pinned], laidTests := true, laidLooks := .later }
def FnExactCountShortestCardSaid : Prop := Claim7.holds Tryz.pinned (.plain (OpenSpec.ofChange fnExactCountShortestSpec)) fnExactCountShortestCard

/-- THE TIED CARD OF 'laws.FnExactShortestWord'. -/
def fnExactShortestWordCard : Claim7 := { stood := { row := fnExactShortestWordRow, standIns := [], harness := (true, "66182615e0aca525bf2b047675b5d26fa69f08fac0b2b98cdf4e2767678464c9"), looks := false }, kinds := [], alts := [], laidByText := true, laidKinds := [.data, .pinned], laidTests := true, laidLooks := .later }
def FnExactShortestWordCardSaid : Prop := Claim7.holds Tryz.pinned (.plain (OpenSpec.ofChange fnExactShortestWordSpec)) fnExactShortestWordCard

/-- THE SECOND FORM's CARD OF 'laws.FnExactWordToCell'. -/
def fnExactWordToCellUptoCard : Claim7 := { stood := { row := fnExactWordToCellUptoRow, standIns := [], harness := (true, "66182615e0aca525bf2b047675b5d26fa69f08fac0b2b98cdf4e2767678464c9"), looks := false }, kinds := [], alts := [], laidByText := true, laidKinds := [.data, .pinned], laidTests := true, laidLooks := .later }
def FnExactWordToCellUptoCardSaid : Prop := Claim7.holds Tryz.pinned (.plain (OpenSpec.upto fnExactWordToCellSpec)) fnExactWordToCellUptoCard

/-- THE SECOND FORM's CARD OF 'laws.FnExactIsReached'. -/
def fnExactIsReachedUptoCard : Claim7 := { stood := { row := fnExactIsReachedUptoRow, standIns := [], harness := (true, "66182615e0aca525bf2b047675b5d26fa69f08fac0b2b98cdf4e2767678464c9"), looks := false }, kinds := [], alts := [], laidByText := true, laidKinds := [.data, .pinned], laidTests := true, laidLooks := .later }
def FnExactIsReachedUptoCardSaid : Prop := Claim7.holds Tryz.pinned (.plain (OpenSpec.upto fnExactIsReachedSpec)) fnExactIsReachedUptoCard

/-- THE SECOND FORM's CARD OF 'laws.FnExactDistanceTo'. -/
def fnExactDistanceToUptoCard : Claim7 := { stood := { row := fnExactDistanceToUptoRow, standIns := [], harness := (true, "66182615e0aca525bf2b047675b5d26fa69f08fac0b2b98cdf4e2767678464c9"), looks := false }, kinds := [], alts := [], laidByText := true, laidKinds := [.data, .pinned], laidTests := true, laidLooks := .later }
def FnExactDistanceToUptoCardSaid : Prop := Claim7.holds Tryz.pinned (.plain (OpenSpec.upto fnExactDistanceToSpec)) fnExactDistanceToUptoCard

/-- THE SECOND FORM's CARD OF 'laws.FnExactCountShortest'. -/
def fnExactCountShortestUptoCard : Claim7 := { stood := { row := fnExactCountShortestUptoRow, standIns := [], harness := (true, "66182615e0aca525bf2b047675b5d26fa69f08fac0b2b98cdf4e2767678464c9"), looks := false }, kinds := [], alts := [], laidByText := true, laidKinds := [.data, .pinned], laidTests := true, laidLooks := .later }
def FnExactCountShortestUptoCardSaid : Prop := Claim7.holds Tryz.pinned (.plain (OpenSpec.upto fnExactCountShortestSpec)) fnExactCountShortestUptoCard

/-- THE SECOND FORM's CARD OF 'laws.FnExactShortestWord'. -/
def fnExactShortestWordUptoCard : Claim7 := { stood := { row := fnExactShortestWordUptoRow, standIns := [], harness := (true, "66182615e0aca525bf2b047675b5d26fa69f08fac0b2b98cdf4e2767678464c9"), looks := false }, kinds := [], alts := [], laidByText := true, laidKinds := [.data, .pinned], laidTests := true, laidLooks := .later }
def FnExactShortestWordUptoCardSaid : Prop := Claim7.holds Tryz.pinned (.plain (OpenSpec.upto fnExactShortestWordSpec)) fnExactShortestWordUptoCard
end Rows
end Go.Proofs.YtchjgphnglklcaaGreatDoor
