/-
  DERIVED. GIVEN WITH THE SEED: THE CARDS: each row of YtchkmhbngbgjnaaGreatDoorRows.lean that lists a variable, with what it lists TIED to the program's text (the seventh form; the later family's looks); each row that meets fmt, with fmt's text TOLD by the authors' own Lean function (tested against real Go, not proved from fmt's source: count such statements apart). THE CARD IS WHAT COUNTS. Prove the row's statement (the work); the ties are given (YtchkmhbngbgjnaaGreatDoorTie.lean); close each card by the builder's one call (the guide's Derived/Test/ToyasCard.lean, 'card_holds'). Laid BY PROGRAM, IN A SANDBOX (cutbox-door.mjs). By AI agents, Wed Nov 11 2026. No macro, syntax, notation, axiom, sorry.
-/
import Derived.Test.YtchkmhbngbgjnaaGreatDoorRows
import GoSem.ClaimSeven
namespace Go.Proofs.YtchkmhbngbgjnaaGreatDoor
namespace Rows

/-- THE TIED CARD OF 'laws.FnExactLayersOf'. -/
def fnExactLayersOfCard : Claim7 := { stood := { row := fnExactLayersOfRow, standIns := [], harness := (true, "044d3f01ec5cb49438b842eb3e4f5ef69e333d9cbaa476f6b9cb6f52287f4c06"), looks := false }, kinds := [], alts := [], laidByText := true, laidKinds := [.data, .pinned], laidTests := true, laidLooks := .later }
def FnExactLayersOfCardSaid : Prop := Claim7.holds Tryz.pinned (.plain (OpenSpec.ofChange fnExactLayersOfSpec)) fnExactLayersOfCard

/-- THE TIED CARD OF 'laws.FnExactIsReached'. -/
def fnExactIsReachedCard : Claim7 := { stood := { row := fnExactIsReachedRow, standIns := [], harness := (true, "044d3f01ec5cb49438b842eb3e4f5ef69e333d9cbaa476f6b9cb6f52287f4c06"), looks := false }, kinds := [], alts := [], laidByText := true, laidKinds := [.data, .pinned], laidTests := true, laidLooks := .later }
def FnExactIsReachedCardSaid : Prop := Claim7.holds Tryz.pinned (.plain (OpenSpec.ofChange fnExactIsReachedSpec)) fnExactIsReachedCard

/-- THE TIED CARD OF 'laws.FnExactFarthestOf'. -/
def fnExactFarthestOfCard : Claim7 := { stood := { row := fnExactFarthestOfRow, standIns := [], harness := (true, "044d3f01ec5cb49438b842eb3e4f5ef69e333d9cbaa476f6b9cb6f52287f4c06"), looks := false }, kinds := [], alts := [], laidByText := true, laidKinds := [.data, .pinned], laidTests := true, laidLooks := .later }
def FnExactFarthestOfCardSaid : Prop := Claim7.holds Tryz.pinned (.plain (OpenSpec.ofChange fnExactFarthestOfSpec)) fnExactFarthestOfCard

/-- THE TIED CARD OF 'laws.FnExactDistanceTo'. -/
def fnExactDistanceToCard : Claim7 := { stood := { row := fnExactDistanceToRow, standIns := [], harness := (true, "044d3f01ec5cb49438b842eb3e4f5ef69e333d9cbaa476f6b9cb6f52287f4c06"), looks := false }, kinds := [], alts := [], laidByText := true, laidKinds := [.data, .pinned], laidTests := true, laidLooks := .later }
def FnExactDistanceToCardSaid : Prop := Claim7.holds Tryz.pinned (.plain (OpenSpec.ofChange fnExactDistanceToSpec)) fnExactDistanceToCard

/-- THE TIED CARD OF 'laws.FnExactShortestWord'. -/
def fnExactShortestWordCard : Claim7 := { stood := { row := fnExactShortestWordRow, standIns := [], harness := (true, "044d3f01ec5cb49438b842eb3e4f5ef69e333d9cbaa476f6b9cb6f52287f4c06"), looks := false }, kinds := [], alts := [], laidByText := true, laidKinds := [.data, .pinned], laidTests := true, laidLooks := .later }
def FnExactShortestWordCardSaid : Prop := Claim7.holds Tryz.pinned (.plain (OpenSpec.ofChange fnExactShortestWordSpec)) fnExactShortestWordCard

/-- THE TIED CARD OF 'laws.FnExactCountShortest'. -/
def fnExactCountShortestCard : Claim7 := { stood := { row := fnExactCountShortestRow, standIns := [], harness := (true, "044d3f01ec5cb49438b842eb3e4f5ef69e333d9cbaa476f6b9cb6f52287f4c06"), looks := false }, kinds := [], alts := [], laidByText := true, laidKinds := [.data, .pinned], laidTests := true, laidLooks := .later }
def FnExactCountShortestCardSaid : Prop := Claim7.holds Tryz.pinned (.plain (OpenSpec.ofChange fnExactCountShortestSpec)) fnExactCountShortestCard

/-- THE TIED CARD OF 'laws.FnExactAreMutual'. -/
def fnExactAreMutualCard : Claim7 := { stood := { row := fnExactAreMutualRow, standIns := [], harness := (true, "044d3f01ec5cb49438b842eb3e4f5ef69e333d9cbaa476f6b9cb6f52287f4c06"), looks := false }, kinds := [], alts := [], laidByText := true, laidKinds := [.data, .pinned], laidTests := true, laidLooks := .later }
def FnExactAreMutualCardSaid : Prop := Claim7.holds Tryz.pinned (.plain (OpenSpec.ofChange fnExactAreMutualSpec)) fnExactAreMutualCard

/-- THE TIED CARD OF 'laws.FnExactWordToCell'. -/
def fnExactWordToCellCard : Claim7 := { stood := { row := fnExactWordToCellRow, standIns := [], harness := (true, "044d3f01ec5cb49438b842eb3e4f5ef69e333d9cbaa476f6b9cb6f52287f4c06"), looks := false }, kinds := [], alts := [], laidByText := true, laidKinds := [.data, .pinned], laidTests := true, laidLooks := .later }
def FnExactWordToCellCardSaid : Prop := Claim7.holds Tryz.pinned (.plain (OpenSpec.ofChange fnExactWordToCellSpec)) fnExactWordToCellCard

/-- THE SECOND FORM's CARD OF 'laws.FnExactLayersOf'. -/
def fnExactLayersOfUptoCard : Claim7 := { stood := { row := fnExactLayersOfUptoRow, standIns := [], harness := (true, "044d3f01ec5cb49438b842eb3e4f5ef69e333d9cbaa476f6b9cb6f52287f4c06"), looks := false }, kinds := [], alts := [], laidByText := true, laidKinds := [.data, .pinned], laidTests := true, laidLooks := .later }
def FnExactLayersOfUptoCardSaid : Prop := Claim7.holds Tryz.pinned (.plain (OpenSpec.upto fnExactLayersOfSpec)) fnExactLayersOfUptoCard

/-- THE SECOND FORM's CARD OF 'laws.FnExactIsReached'. -/
def fnExactIsReachedUptoCard : Claim7 := { stood := { row := fnExactIsReachedUptoRow, standIns := [], harness := (true, "044d3f01ec5cb49438b842eb3e4f5ef69e333d9cbaa476f6b9cb6f52287f4c06"), looks := false }, kinds := [], alts := [], laidByText := true, laidKinds := [.data, .pinned], laidTests := true, laidLooks := .later }
def FnExactIsReachedUptoCardSaid : Prop := Claim7.holds Tryz.pinned (.plain (OpenSpec.upto fnExactIsReachedSpec)) fnExactIsReachedUptoCard

/-- THE SECOND FORM's CARD OF 'laws.FnExactFarthestOf'. -/
def fnExactFarthestOfUptoCard : Claim7 := { stood := { row := fnExactFarthestOfUptoRow, standIns := [], harness := (true, "044d3f01ec5cb49438b842eb3e4f5ef69e333d9cbaa476f6b9cb6f52287f4c06"), looks := false }, kinds := [], alts := [], laidByText := true, laidKinds := [.data, .pinned], laidTests := true, laidLooks := .later }
def FnExactFarthestOfUptoCardSaid : Prop := Claim7.holds Tryz.pinned (.plain (OpenSpec.upto fnExactFarthestOfSpec)) fnExactFarthestOfUptoCard

/-- THE SECOND FORM's CARD OF 'laws.FnExactDistanceTo'. -/
def fnExactDistanceToUptoCard : Claim7 := { stood := { row := fnExactDistanceToUptoRow, standIns := [], harness := (true, "044d3f01ec5cb49438b842eb3e4f5ef69e333d9cbaa476f6b9cb6f52287f4c06"), looks := false }, kinds := [], alts := [], laidByText := true, laidKinds := [.data, .pinned], laidTests := true, laidLooks := .later }
def FnExactDistanceToUptoCardSaid : Prop := Claim7.holds Tryz.pinned (.plain (OpenSpec.upto fnExactDistanceToSpec)) fnExactDistanceToUptoCard

/-- THE SECOND FORM's CARD OF 'laws.FnExactShortestWord'. -/
def fnExactShortestWordUptoCard : Claim7 := { stood := { row := fnExactShortestWordUptoRow, standIns := [], harness := (true, "044d3f01ec5cb49438b842eb3e4f5ef69e333d9cbaa476f6b9cb6f52287f4c06"), looks := false }, kinds := [], alts := [], laidByText := true, laidKinds := [.data, .pinned], laidTests := true, laidLooks := .later }
def FnExactShortestWordUptoCardSaid : Prop := Claim7.holds Tryz.pinned (.plain (OpenSpec.upto fnExactShortestWordSpec)) fnExactShortestWordUptoCard

/-- THE SECOND FORM's CARD OF 'laws.FnExactCountShortest'. -/
def fnExactCountShortestUptoCard : Claim7 := { stood := { row := fnExactCountShortestUptoRow, standIns := [], harness := (true, "044d3f01ec5cb49438b842eb3e4f5ef69e333d9cbaa476f6b9cb6f52287f4c06"), looks := false }, kinds := [], alts := [], laidByText := true, laidKinds := [.data, .pinned], laidTests := true, laidLooks := .later }
def FnExactCountShortestUptoCardSaid : Prop := Claim7.holds Tryz.pinned (.plain (OpenSpec.upto fnExactCountShortestSpec)) fnExactCountShortestUptoCard

/-- THE SECOND FORM's CARD OF 'laws.FnExactAreMutual'. -/
def fnExactAreMutualUptoCard : Claim7 := { stood := { row := fnExactAreMutualUptoRow, standIns := [], harness := (true, "044d3f01ec5cb49438b842eb3e4f5ef69e333d9cbaa476f6b9cb6f52287f4c06"), looks := false }, kinds := [], alts := [], laidByText := true, laidKinds := [.data, .pinned], laidTests := true, laidLooks := .later }
def FnExactAreMutualUptoCardSaid : Prop := Claim7.holds Tryz.pinned (.plain (OpenSpec.upto fnExactAreMutualSpec)) fnExactAreMutualUptoCard

/-- THE SECOND FORM's CARD OF 'laws.FnExactWordToCell'. -/
def fnExactWordToCellUptoCard : Claim7 := { stood := { row := fnExactWordToCellUptoRow, standIns := [], harness := (true, "044d3f01ec5cb49438b842eb3e4f5ef69e333d9cbaa476f6b9cb6f52287f4c06"), looks := false }, kinds := [], alts := [], laidByText := true, laidKinds := [.data, .pinned], laidTests := true, laidLooks := .later }
def FnExactWordToCellUptoCardSaid : Prop := Claim7.holds Tryz.pinned (.plain (OpenSpec.upto fnExactWordToCellSpec)) fnExactWordToCellUptoCard
end Rows
end Go.Proofs.YtchkmhbngbgjnaaGreatDoor
