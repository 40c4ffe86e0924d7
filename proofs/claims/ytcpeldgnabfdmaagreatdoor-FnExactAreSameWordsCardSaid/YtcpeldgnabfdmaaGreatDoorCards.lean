/-
  DERIVED. GIVEN WITH THE SEED: THE CARDS: each row of YtcpeldgnabfdmaaGreatDoorRows.lean that lists a variable, with what it lists TIED to the program's text (the seventh form; the later family's looks); each row that meets fmt, with fmt's text TOLD by the authors' own Lean function (tested against real Go, not proved from fmt's source: count such statements apart). THE CARD IS WHAT COUNTS. Prove the row's statement (the work); the ties are given (YtcpeldgnabfdmaaGreatDoorTie.lean); close each card by the builder's one call (the guide's Derived/Test/ToyasCard.lean, 'card_holds'). Laid BY PROGRAM, IN A SANDBOX (cutbox-door.mjs). By AI agents, Wed Nov 11 2026. No macro, syntax, notation, axiom, sorry.
-/
import Derived.Test.YtcpeldgnabfdmaaGreatDoorRows
import GoSem.ClaimSeven
namespace Go.Proofs.YtcpeldgnabfdmaaGreatDoor
namespace Rows

/-- THE TIED CARD OF 'laws.FnExactTiltTray'. -/
def fnExactTiltTrayCard : Claim7 := { stood := { row := fnExactTiltTrayRow, standIns := [], harness := (true, "6915ebc66197f6724025dec6f20c0cab659a5b56c29197db83b0c089df5c143f"), looks := false }, kinds := [], alts := [], laidByText := true, laidKinds := [.data, .pinned], laidTests := true, laidLooks := .later }
def FnExactTiltTrayCardSaid : Prop := Claim7.holds Tryz.pinned (.plain (OpenSpec.ofChange fnExactTiltTraySpec)) fnExactTiltTrayCard

/-- THE TIED CARD OF 'laws.FnExactTiltWord'. -/
def fnExactTiltWordCard : Claim7 := { stood := { row := fnExactTiltWordRow, standIns := [], harness := (true, "6915ebc66197f6724025dec6f20c0cab659a5b56c29197db83b0c089df5c143f"), looks := false }, kinds := [], alts := [], laidByText := true, laidKinds := [.data, .pinned], laidTests := true, laidLooks := .later }
def FnExactTiltWordCardSaid : Prop := Claim7.holds Tryz.pinned (.plain (OpenSpec.ofChange fnExactTiltWordSpec)) fnExactTiltWordCard

/-- THE TIED CARD OF 'laws.FnExactAreSameWords'. -/
def fnExactAreSameWordsCard : Claim7 := { stood := { row := fnExactAreSameWordsRow, standIns := [], harness := (true, "6915ebc66197f6724025dec6f20c0cab659a5b56c29197db83b0c089df5c143f"), looks := false }, kinds := [], alts := [], laidByText := true, laidKinds := [.data, .pinned], laidTests := true, laidLooks := .later }
def FnExactAreSameWordsCardSaid : Prop := Claim7.holds Tryz.pinned (.plain (OpenSpec.ofChange fnExactAreSameWordsSpec)) fnExactAreSameWordsCard

/-- THE SECOND FORM's CARD OF 'laws.FnExactTiltTray'. -/
def fnExactTiltTrayUptoCard : Claim7 := { stood := { row := fnExactTiltTrayUptoRow, standIns := [], harness := (true, "6915ebc66197f6724025dec6f20c0cab659a5b56c29197db83b0c089df5c143f"), looks := false }, kinds := [], alts := [], laidByText := true, laidKinds := [.data, .pinned], laidTests := true, laidLooks := .later }
def FnExactTiltTrayUptoCardSaid : Prop := Claim7.holds Tryz.pinned (.plain (OpenSpec.upto fnExactTiltTraySpec)) fnExactTiltTrayUptoCard

/-- THE SECOND FORM's CARD OF 'laws.FnExactTiltWord'. -/
def fnExactTiltWordUptoCard : Claim7 := { stood := { row := fnExactTiltWordUptoRow, standIns := [], harness := (true, "6915ebc66197f6724025dec6f20c0cab659a5b56c29197db83b0c089df5c143f"), looks := false }, kinds := [], alts := [], laidByText := true, laidKinds := [.data, .pinned], laidTests := true, laidLooks := .later }
def FnExactTiltWordUptoCardSaid : Prop := Claim7.holds Tryz.pinned (.plain (OpenSpec.upto fnExactTiltWordSpec)) fnExactTiltWordUptoCard

/-- THE SECOND FORM's CARD OF 'laws.FnExactAreSameWords'. -/
def fnExactAreSameWordsUptoCard : Claim7 := { stood := { row := fnExactAreSameWordsUptoRow, standIns := [], harness := (true, "6915ebc66197f6724025dec6f20c0cab659a5b56c29197db83b0c089df5c143f"), looks := false }, kinds := [], alts := [], laidByText := true, laidKinds := [.data, .pinned], laidTests := true, laidLooks := .later }
def FnExactAreSameWordsUptoCardSaid : Prop := Claim7.holds Tryz.pinned (.plain (OpenSpec.upto fnExactAreSameWordsSpec)) fnExactAreSameWordsUptoCard
end Rows
end Go.Proofs.YtcpeldgnabfdmaaGreatDoor
