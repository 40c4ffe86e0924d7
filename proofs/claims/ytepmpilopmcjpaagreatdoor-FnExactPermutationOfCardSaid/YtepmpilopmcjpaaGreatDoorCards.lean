/-
  DERIVED. GIVEN WITH THE SEED: THE CARDS: each row of YtepmpilopmcjpaaGreatDoorRows.lean that lists a variable, with what it lists TIED to the program's text (the seventh form; the later family's looks); each row that meets fmt, with fmt's text TOLD by the authors' own Lean function (tested against real Go, not proved from fmt's source: count such statements apart). THE CARD IS WHAT COUNTS. Prove the row's statement (the work); the ties are given (YtepmpilopmcjpaaGreatDoorTie.lean); close each card by the builder's one call (the guide's Derived/Test/ToyasCard.lean, 'card_holds'). Laid BY PROGRAM, IN A SANDBOX (cutbox-door.mjs). By AI agents, Wed Nov 11 2026. No macro, syntax, notation, axiom, sorry.
-/
import Derived.Test.YtepmpilopmcjpaaGreatDoorRows
import GoSem.ClaimSeven
namespace Go.Proofs.YtepmpilopmcjpaaGreatDoor
namespace Rows

/-- THE TIED CARD OF 'laws.FnExactCountBefore'. -/
def fnExactCountBeforeCard : Claim7 := { stood := { row := fnExactCountBeforeRow, standIns := [], harness := (true, "c2c4b542e6422f982ed9bbc694921c9a840d4d40ab5998e496896555360da5bc"), looks := false }, kinds := [], alts := [], laidByText := true, laidKinds := [.data, .pinned], laidTests := true, laidLooks := .later }
def FnExactCountBeforeCardSaid : Prop := Claim7.holds Tryz.pinned (.plain (OpenSpec.ofChange fnExactCountBeforeSpec)) fnExactCountBeforeCard

/-- THE TIED CARD OF 'laws.FnExactPathOfBall'. -/
def fnExactPathOfBallCard : Claim7 := { stood := { row := fnExactPathOfBallRow, standIns := [], harness := (true, "c2c4b542e6422f982ed9bbc694921c9a840d4d40ab5998e496896555360da5bc"), looks := false }, kinds := [], alts := [], laidByText := true, laidKinds := [.data, .pinned], laidTests := true, laidLooks := .later }
def FnExactPathOfBallCardSaid : Prop := Claim7.holds Tryz.pinned (.plain (OpenSpec.ofChange fnExactPathOfBallSpec)) fnExactPathOfBallCard

/-- THE TIED CARD OF 'laws.FnExactComesBack'. -/
def fnExactComesBackCard : Claim7 := { stood := { row := fnExactComesBackRow, standIns := [], harness := (true, "c2c4b542e6422f982ed9bbc694921c9a840d4d40ab5998e496896555360da5bc"), looks := false }, kinds := [], alts := [], laidByText := true, laidKinds := [.data, .pinned], laidTests := true, laidLooks := .later }
def FnExactComesBackCardSaid : Prop := Claim7.holds Tryz.pinned (.plain (OpenSpec.ofChange fnExactComesBackSpec)) fnExactComesBackCard

/-- THE TIED CARD OF 'laws.FnExactPermutationOf'. -/
def fnExactPermutationOfCard : Claim7 := { stood := { row := fnExactPermutationOfRow, standIns := [], harness := (true, "c2c4b542e6422f982ed9bbc694921c9a840d4d40ab5998e496896555360da5bc"), looks := false }, kinds := [], alts := [], laidByText := true, laidKinds := [.data, .pinned], laidTests := true, laidLooks := .later }
def FnExactPermutationOfCardSaid : Prop := Claim7.holds Tryz.pinned (.plain (OpenSpec.ofChange fnExactPermutationOfSpec)) fnExactPermutationOfCard

/-- THE TIED CARD OF 'laws.FnExactIsSolvedBy'. -/
def fnExactIsSolvedByCard : Claim7 := { stood := { row := fnExactIsSolvedByRow, standIns := [], harness := (true, "c2c4b542e6422f982ed9bbc694921c9a840d4d40ab5998e496896555360da5bc"), looks := false }, kinds := [], alts := [], laidByText := true, laidKinds := [.data, .pinned], laidTests := true, laidLooks := .later }
def FnExactIsSolvedByCardSaid : Prop := Claim7.holds Tryz.pinned (.plain (OpenSpec.ofChange fnExactIsSolvedBySpec)) fnExactIsSolvedByCard

/-- THE TIED CARD OF 'laws.FnExactFirstSolved'. -/
def fnExactFirstSolvedCard : Claim7 := { stood := { row := fnExactFirstSolvedRow, standIns := [], harness := (true, "c2c4b542e6422f982ed9bbc694921c9a840d4d40ab5998e496896555360da5bc"), looks := false }, kinds := [], alts := [], laidByText := true, laidKinds := [.data, .pinned], laidTests := true, laidLooks := .later }
def FnExactFirstSolvedCardSaid : Prop := Claim7.holds Tryz.pinned (.plain (OpenSpec.ofChange fnExactFirstSolvedSpec)) fnExactFirstSolvedCard

/-- THE SECOND FORM's CARD OF 'laws.FnExactCountBefore'. -/
def fnExactCountBeforeUptoCard : Claim7 := { stood := { row := fnExactCountBeforeUptoRow, standIns := [], harness := (true, "c2c4b542e6422f982ed9bbc694921c9a840d4d40ab5998e496896555360da5bc"), looks := false }, kinds := [], alts := [], laidByText := true, laidKinds := [.data, .pinned], laidTests := true, laidLooks := .later }
def FnExactCountBeforeUptoCardSaid : Prop := Claim7.holds Tryz.pinned (.plain (OpenSpec.upto fnExactCountBeforeSpec)) fnExactCountBeforeUptoCard

/-- THE SECOND FORM's CARD OF 'laws.FnExactPathOfBall'. -/
def fnExactPathOfBallUptoCard : Claim7 := { stood := { row := fnExactPathOfBallUptoRow, standIns := [], harness := (true, "c2c4b542e6422f982ed9bbc694921c9a840d4d40ab5998e496896555360da5bc"), looks := false }, kinds := [], alts := [], laidByText := true, laidKinds := [.data, .pinned], laidTests := true, laidLooks := .later }
def FnExactPathOfBallUptoCardSaid : Prop := Claim7.holds Tryz.pinned (.plain (OpenSpec.upto fnExactPathOfBallSpec)) fnExactPathOfBallUptoCard

/-- THE SECOND FORM's CARD OF 'laws.FnExactComesBack'. -/
def fnExactComesBackUptoCard : Claim7 := { stood := { row := fnExactComesBackUptoRow, standIns := [], harness := (true, "c2c4b542e6422f982ed9bbc694921c9a840d4d40ab5998e496896555360da5bc"), looks := false }, kinds := [], alts := [], laidByText := true, laidKinds := [.data, .pinned], laidTests := true, laidLooks := .later }
def FnExactComesBackUptoCardSaid : Prop := Claim7.holds Tryz.pinned (.plain (OpenSpec.upto fnExactComesBackSpec)) fnExactComesBackUptoCard

/-- THE SECOND FORM's CARD OF 'laws.FnExactPermutationOf'. -/
def fnExactPermutationOfUptoCard : Claim7 := { stood := { row := fnExactPermutationOfUptoRow, standIns := [], harness := (true, "c2c4b542e6422f982ed9bbc694921c9a840d4d40ab5998e496896555360da5bc"), looks := false }, kinds := [], alts := [], laidByText := true, laidKinds := [.data, .pinned], laidTests := true, laidLooks := .later }
def FnExactPermutationOfUptoCardSaid : Prop := Claim7.holds Tryz.pinned (.plain (OpenSpec.upto fnExactPermutationOfSpec)) fnExactPermutationOfUptoCard

/-- THE SECOND FORM's CARD OF 'laws.FnExactIsSolvedBy'. -/
def fnExactIsSolvedByUptoCard : Claim7 := { stood := { row := fnExactIsSolvedByUptoRow, standIns := [], harness := (true, "c2c4b542e6422f982ed9bbc694921c9a840d4d40ab5998e496896555360da5bc"), looks := false }, kinds := [], alts := [], laidByText := true, laidKinds := [.data, .pinned], laidTests := true, laidLooks := .later }
def FnExactIsSolvedByUptoCardSaid : Prop := Claim7.holds Tryz.pinned (.plain (OpenSpec.upto fnExactIsSolvedBySpec)) fnExactIsSolvedByUptoCard

/-- THE SECOND FORM's CARD OF 'laws.FnExactFirstSolved'. -/
def fnExactFirstSolvedUptoCard : Claim7 := { stood := { row := fnExactFirstSolvedUptoRow, standIns := [], harness := (true, "c2c4b542e6422f982ed9bbc694921c9a840d4d40ab5998e496896555360da5bc"), looks := false }, kinds := [], alts := [], laidByText := true, laidKinds := [.data, .pinned], laidTests := true, laidLooks := .later }
def FnExactFirstSolvedUptoCardSaid : Prop := Claim7.holds Tryz.pinned (.plain (OpenSpec.upto fnExactFirstSolvedSpec)) fnExactFirstSolvedUptoCard
end Rows
end Go.Proofs.YtepmpilopmcjpaaGreatDoor
