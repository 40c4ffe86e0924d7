/-
  NARROWER THAN 'FOR EVERY INPUT', by the rows' own cells (each row's printed sentence says how): FnExactCountBefore: laid · FnExactPathOfBall: laid · FnExactComesBack: laid · FnExactPermutationOf: laid · FnExactIsSolvedBy: laid · FnExactFirstSolved: laid.
  DERIVED. THE GIVEN ROWS OF THIS SEAT. 6 by the template 'for every input the law returns true; each argument reads behind the call as it read before'; 0 by the template 'total and deterministic' (their statements: YtepmpilopmcjpaaGreatDoorTotals.lean).
  GIVEN WITH THE SEED: the statements are not yours to turn. If you find one false, say at which input.
  Laid BY PROGRAM, IN A SANDBOX (cutbox-rows.mjs): the forced cells as the released guide's own fill.sh prints them over the translation 5e32fc866e53fbb0… (all of the seat's roots in one cut). By AI agents, Wed Nov 11 2026. No macro, syntax, notation, axiom, sorry.
-/
import Derived.Test.YtepmpilopmcjpaaGreatDoorChecked
import GoSem.PinnedTables
import GoSem.Claim
import GoSem.ClaimJoined
import GoSem.ClaimMapViews
import Derived.JoinedTies
import Derived.KernelRfl
namespace Go.Proofs.YtepmpilopmcjpaaGreatDoor
/- THE CELL 'sum', in the pinned program and in every row, IS THE sha256 OF THE DUMP (.gsa) THAT YtepmpilopmcjpaaGreatDoorProg.lean LOADS. Nothing in Lean hashes anything: it is a label: what it is worth is what the hold of that sum in a sandbox is worth. -/
noncomputable def Tryz.pinned : Pinned := { name := "ytepmpilopmcjpaagreatdoor", sum := "5e32fc866e53fbb0482f4fa796857781d8238e4a80f1816ee29471d3f3f79b49", checked := Tryz.checked }
namespace Rows
def none {H : Type} : Left H := { results := [], args := [] }

/- WHAT THE LISTED PACKAGE-LEVEL VARIABLES READ AS WHEN THE CALL BEGINS. Each datum BY PROGRAM (the guide's laid-datum.mjs) off the statement by which the dump's own 'gosem.cut.vars' lays the variable. In a bare row this is a premise. The card (YtepmpilopmcjpaaGreatDoorCards.lean) ties it to the program's text. -/
def laid_unicode_utf8_acceptRanges {H : Type} : DataW H := .agg [.agg [.lit (.int .u8 128), .lit (.int .u8 191)], .agg [.lit (.int .u8 160), .lit (.int .u8 191)], .agg [.lit (.int .u8 128), .lit (.int .u8 159)], .agg [.lit (.int .u8 144), .lit (.int .u8 191)], .agg [.lit (.int .u8 128), .lit (.int .u8 143)], .agg [.lit (.int .u8 0), .lit (.int .u8 0)], .agg [.lit (.int .u8 0), .lit (.int .u8 0)], .agg [.lit (.int .u8 0), .lit (.int .u8 0)], .agg [.lit (.int .u8 0), .lit (.int .u8 0)], .agg [.lit (.int .u8 0), .lit (.int .u8 0)], .agg [.lit (.int .u8 0), .lit (.int .u8 0)], .agg [.lit (.int .u8 0), .lit (.int .u8 0)], .agg [.lit (.int .u8 0), .lit (.int .u8 0)], .agg [.lit (.int .u8 0), .lit (.int .u8 0)], .agg [.lit (.int .u8 0), .lit (.int .u8 0)], .agg [.lit (.int .u8 0), .lit (.int .u8 0)]]
/-- One of Go's own tables, pinned by name: the form's constant. -/
def laid_unicode_utf8_first : DataW Unit := Go.Pinned.utf8First

/-- 'laws.FnExactCountBefore': WHATEVER THE INPUT: true; the input reads as it did. -/
def fnExactCountBeforeSpec : ChangeSpec := { name := "fnExactCountBefore", fn := fun _ => fun
  | [d1, d2] => { results := [.lit (.bool true)], args := [d1, d2] }
  | _ => none }
def fnExactCountBeforeRow : OpenClaim := { program := "ytepmpilopmcjpaagreatdoor", sum := "5e32fc866e53fbb0482f4fa796857781d8238e4a80f1816ee29471d3f3f79b49", func := "loop.example/g01199/laws.FnExactCountBefore", spec := "fnExactCountBefore", inPlace := ["internal/bytealg.CountString", "internal/bytealg.IndexByteString", "internal/bytealg.IndexString", "internal/abi.NoEscape", "internal/bytealg.MakeNoZero"], unfollowed := true, recurses := true, named := ["unicode/utf8.first", "unicode/utf8.acceptRanges", "internal/bytealg.MaxLen"], apart := false, laid := [("unicode/utf8.acceptRanges", laid_unicode_utf8_acceptRanges), ("unicode/utf8.first", laid_unicode_utf8_first)] }
def FnExactCountBeforeSaid : Prop := fnExactCountBeforeRow.holds Tryz.pinned (OpenSpec.ofChange fnExactCountBeforeSpec)

/-- ITS FALSE NEIGHBOUR: 'it returns false'. Refute it at one input. -/
def fnExactCountBeforeWrong : ChangeSpec := { name := "fnExactCountBefore", fn := fun _ => fun
  | [d1, d2] => { results := [.lit (.bool false)], args := [d1, d2] }
  | _ => none }
def FnExactCountBeforeWrongFalsely : Prop := fnExactCountBeforeRow.holds Tryz.pinned (OpenSpec.ofChange fnExactCountBeforeWrong)

/-- 'laws.FnExactPathOfBall': WHATEVER THE INPUT: true; the input reads as it did. -/
def fnExactPathOfBallSpec : ChangeSpec := { name := "fnExactPathOfBall", fn := fun _ => fun
  | [d1, d2, d3] => { results := [.lit (.bool true)], args := [d1, d2, d3] }
  | _ => none }
def fnExactPathOfBallRow : OpenClaim := { program := "ytepmpilopmcjpaagreatdoor", sum := "5e32fc866e53fbb0482f4fa796857781d8238e4a80f1816ee29471d3f3f79b49", func := "loop.example/g01199/laws.FnExactPathOfBall", spec := "fnExactPathOfBall", inPlace := ["internal/bytealg.CountString", "internal/bytealg.IndexByteString", "internal/bytealg.IndexString", "internal/abi.NoEscape", "internal/bytealg.MakeNoZero"], unfollowed := true, recurses := true, named := ["unicode/utf8.first", "unicode/utf8.acceptRanges", "internal/bytealg.MaxLen"], apart := false, laid := [("unicode/utf8.acceptRanges", laid_unicode_utf8_acceptRanges), ("unicode/utf8.first", laid_unicode_utf8_first)] }
def FnExactPathOfBallSaid : Prop := fnExactPathOfBallRow.holds Tryz.pinned (OpenSpec.ofChange fnExactPathOfBallSpec)

/-- ITS FALSE NEIGHBOUR: 'it returns false'. Refute it at one input. -/
def fnExactPathOfBallWrong : ChangeSpec := { name := "fnExactPathOfBall", fn := fun _ => fun
  | [d1, d2, d3] => { results := [.lit (.bool false)], args := [d1, d2, d3] }
  | _ => none }
def FnExactPathOfBallWrongFalsely : Prop := fnExactPathOfBallRow.holds Tryz.pinned (OpenSpec.ofChange fnExactPathOfBallWrong)

/-- 'laws.FnExactComesBack': WHATEVER THE INPUT: true; the input reads as it did. -/
def fnExactComesBackSpec : ChangeSpec := { name := "fnExactComesBack", fn := fun _ => fun
  | [d1, d2] => { results := [.lit (.bool true)], args := [d1, d2] }
  | _ => none }
def fnExactComesBackRow : OpenClaim := { program := "ytepmpilopmcjpaagreatdoor", sum := "5e32fc866e53fbb0482f4fa796857781d8238e4a80f1816ee29471d3f3f79b49", func := "loop.example/g01199/laws.FnExactComesBack", spec := "fnExactComesBack", inPlace := ["internal/bytealg.CountString", "internal/bytealg.IndexByteString", "internal/bytealg.IndexString", "internal/abi.NoEscape", "internal/bytealg.MakeNoZero"], unfollowed := true, recurses := true, named := ["unicode/utf8.first", "unicode/utf8.acceptRanges", "internal/bytealg.MaxLen"], apart := false, laid := [("unicode/utf8.acceptRanges", laid_unicode_utf8_acceptRanges), ("unicode/utf8.first", laid_unicode_utf8_first)] }
def FnExactComesBackSaid : Prop := fnExactComesBackRow.holds Tryz.pinned (OpenSpec.ofChange fnExactComesBackSpec)

/-- ITS FALSE NEIGHBOUR: 'it returns false'. Refute it at one input. -/
def fnExactComesBackWrong : ChangeSpec := { name := "fnExactComesBack", fn := fun _ => fun
  | [d1, d2] => { results := [.lit (.bool false)], args := [d1, d2] }
  | _ => none }
def FnExactComesBackWrongFalsely : Prop := fnExactComesBackRow.holds Tryz.pinned (OpenSpec.ofChange fnExactComesBackWrong)

/-- 'laws.FnExactPermutationOf': WHATEVER THE INPUT: true; the input reads as it did. -/
def fnExactPermutationOfSpec : ChangeSpec := { name := "fnExactPermutationOf", fn := fun _ => fun
  | [d1, d2] => { results := [.lit (.bool true)], args := [d1, d2] }
  | _ => none }
def fnExactPermutationOfRow : OpenClaim := { program := "ytepmpilopmcjpaagreatdoor", sum := "5e32fc866e53fbb0482f4fa796857781d8238e4a80f1816ee29471d3f3f79b49", func := "loop.example/g01199/laws.FnExactPermutationOf", spec := "fnExactPermutationOf", inPlace := ["internal/bytealg.CountString", "internal/bytealg.IndexByteString", "internal/bytealg.IndexString", "internal/abi.NoEscape", "internal/bytealg.MakeNoZero"], unfollowed := true, recurses := true, named := ["unicode/utf8.first", "unicode/utf8.acceptRanges", "internal/bytealg.MaxLen"], apart := false, laid := [("unicode/utf8.acceptRanges", laid_unicode_utf8_acceptRanges), ("unicode/utf8.first", laid_unicode_utf8_first)] }
def FnExactPermutationOfSaid : Prop := fnExactPermutationOfRow.holds Tryz.pinned (OpenSpec.ofChange fnExactPermutationOfSpec)

/-- ITS FALSE NEIGHBOUR: 'it returns false'. Refute it at one input. -/
def fnExactPermutationOfWrong : ChangeSpec := { name := "fnExactPermutationOf", fn := fun _ => fun
  | [d1, d2] => { results := [.lit (.bool false)], args := [d1, d2] }
  | _ => none }
def FnExactPermutationOfWrongFalsely : Prop := fnExactPermutationOfRow.holds Tryz.pinned (OpenSpec.ofChange fnExactPermutationOfWrong)

/-- 'laws.FnExactIsSolvedBy': WHATEVER THE INPUT: true; the input reads as it did. -/
def fnExactIsSolvedBySpec : ChangeSpec := { name := "fnExactIsSolvedBy", fn := fun _ => fun
  | [d1, d2] => { results := [.lit (.bool true)], args := [d1, d2] }
  | _ => none }
def fnExactIsSolvedByRow : OpenClaim := { program := "ytepmpilopmcjpaagreatdoor", sum := "5e32fc866e53fbb0482f4fa796857781d8238e4a80f1816ee29471d3f3f79b49", func := "loop.example/g01199/laws.FnExactIsSolvedBy", spec := "fnExactIsSolvedBy", inPlace := ["internal/bytealg.CountString", "internal/bytealg.IndexByteString", "internal/bytealg.IndexString", "internal/abi.NoEscape", "internal/bytealg.MakeNoZero"], unfollowed := true, recurses := true, named := ["unicode/utf8.first", "unicode/utf8.acceptRanges", "internal/bytealg.MaxLen"], apart := false, laid := [("unicode/utf8.acceptRanges", laid_unicode_utf8_acceptRanges), ("unicode/utf8.first", laid_unicode_utf8_first)] }
def FnExactIsSolvedBySaid : Prop := fnExactIsSolvedByRow.holds Tryz.pinned (OpenSpec.ofChange fnExactIsSolvedBySpec)

/-- ITS FALSE NEIGHBOUR: 'it returns false'. Refute it at one input. -/
def fnExactIsSolvedByWrong : ChangeSpec := { name := "fnExactIsSolvedBy", fn := fun _ => fun
  | [d1, d2] => { results := [.lit (.bool false)], args := [d1, d2] }
  | _ => none }
def FnExactIsSolvedByWrongFalsely : Prop := fnExactIsSolvedByRow.holds Tryz.pinned (OpenSpec.ofChange fnExactIsSolvedByWrong)

/-- 'laws.FnExactFirstSolved': WHATEVER THE INPUT: true; the input reads as it did. -/
def fnExactFirstSolvedSpec : ChangeSpec := { name := "fnExactFirstSolved", fn := fun _ => fun
  | [d1, d2] => { results := [.lit (.bool true)], args := [d1, d2] }
  | _ => none }
def fnExactFirstSolvedRow : OpenClaim := { program := "ytepmpilopmcjpaagreatdoor", sum := "5e32fc866e53fbb0482f4fa796857781d8238e4a80f1816ee29471d3f3f79b49", func := "loop.example/g01199/laws.FnExactFirstSolved", spec := "fnExactFirstSolved", inPlace := ["internal/bytealg.CountString", "internal/bytealg.IndexByteString", "internal/bytealg.IndexString", "internal/abi.NoEscape", "internal/bytealg.MakeNoZero"], unfollowed := true, recurses := true, named := ["unicode/utf8.first", "unicode/utf8.acceptRanges", "internal/bytealg.MaxLen"], apart := false, laid := [("unicode/utf8.acceptRanges", laid_unicode_utf8_acceptRanges), ("unicode/utf8.first", laid_unicode_utf8_first)] }
def FnExactFirstSolvedSaid : Prop := fnExactFirstSolvedRow.holds Tryz.pinned (OpenSpec.ofChange fnExactFirstSolvedSpec)

/-- ITS FALSE NEIGHBOUR: 'it returns false'. Refute it at one input. -/
def fnExactFirstSolvedWrong : ChangeSpec := { name := "fnExactFirstSolved", fn := fun _ => fun
  | [d1, d2] => { results := [.lit (.bool false)], args := [d1, d2] }
  | _ => none }
def FnExactFirstSolvedWrongFalsely : Prop := fnExactFirstSolvedRow.holds Tryz.pinned (OpenSpec.ofChange fnExactFirstSolvedWrong)

/- THE SECOND FORM. 'bulk': how many values and letters a reading holds, each counted each time it is reached (what is shared counts as often as it is met; a slice's spare places count too). A statement '..UptoSaid' is the law's where the arguments, and the package variables that the reading takes, are together of bulk at most 1048576: NARROWER than '..Said'. Prove '..Said' where nothing that the law and all that it calls make is longer than what came in: it says more and counts as full. Else prove '..UptoSaid'. A law counts once. -/
mutual
def uptoBulk {H : Type} : DataW H → Nat
  | .lit (.string bytes) => bytes.length + 1
  | .lit _ => 1
  | .nil => 1
  | .ptr d => uptoBulk d + 1
  | .slice elems spare => uptoBulkAll elems + uptoBulkAll spare + 1
  | .agg parts => uptoBulkAll parts + 1
  | .iface _ d => uptoBulk d + 1
  | .map entries => uptoBulkEntries entries + 1
  | .held _ => 1
def uptoBulkAll {H : Type} : List (DataW H) → Nat
  | [] => 0
  | d :: r => uptoBulk d + uptoBulkAll r
def uptoBulkEntries {H : Type} : List (Lit × DataW H) → Nat
  | [] => 0
  | x :: r => uptoBulkEntry x + uptoBulkEntries r
def uptoBulkEntry {H : Type} : Lit × DataW H → Nat
  | (.string bytes, d) => bytes.length + uptoBulk d + 1
  | (_, d) => uptoBulk d + 1
 end
def uptoSmall : (H : Type) → List (DataW H) → Bool := fun _ ds => decide (uptoBulkAll ds ≤ 1048576)
def OpenSpec.upto (s : _root_.Go.ChangeSpec) : _root_.Go.OpenSpec := { _root_.Go.OpenSpec.ofChange s with cond := some uptoSmall }

/-- 'laws.FnExactCountBefore', WHERE WHAT IT READS IS OF BULK AT MOST 1048576: true; the input reads as it did. -/
def fnExactCountBeforeUptoRow : OpenClaim := { program := "ytepmpilopmcjpaagreatdoor", sum := "5e32fc866e53fbb0482f4fa796857781d8238e4a80f1816ee29471d3f3f79b49", func := "loop.example/g01199/laws.FnExactCountBefore", spec := "fnExactCountBefore", inPlace := ["internal/bytealg.CountString", "internal/bytealg.IndexByteString", "internal/bytealg.IndexString", "internal/abi.NoEscape", "internal/bytealg.MakeNoZero"], unfollowed := true, recurses := true, named := ["unicode/utf8.first", "unicode/utf8.acceptRanges", "internal/bytealg.MaxLen"], apart := false, laid := [("unicode/utf8.acceptRanges", laid_unicode_utf8_acceptRanges), ("unicode/utf8.first", laid_unicode_utf8_first)], narrowed := true }
def FnExactCountBeforeUptoSaid : Prop := fnExactCountBeforeUptoRow.holds Tryz.pinned (OpenSpec.upto fnExactCountBeforeSpec)

/-- 'laws.FnExactPathOfBall', WHERE WHAT IT READS IS OF BULK AT MOST 1048576: true; the input reads as it did. -/
def fnExactPathOfBallUptoRow : OpenClaim := { program := "ytepmpilopmcjpaagreatdoor", sum := "5e32fc866e53fbb0482f4fa796857781d8238e4a80f1816ee29471d3f3f79b49", func := "loop.example/g01199/laws.FnExactPathOfBall", spec := "fnExactPathOfBall", inPlace := ["internal/bytealg.CountString", "internal/bytealg.IndexByteString", "internal/bytealg.IndexString", "internal/abi.NoEscape", "internal/bytealg.MakeNoZero"], unfollowed := true, recurses := true, named := ["unicode/utf8.first", "unicode/utf8.acceptRanges", "internal/bytealg.MaxLen"], apart := false, laid := [("unicode/utf8.acceptRanges", laid_unicode_utf8_acceptRanges), ("unicode/utf8.first", laid_unicode_utf8_first)], narrowed := true }
def FnExactPathOfBallUptoSaid : Prop := fnExactPathOfBallUptoRow.holds Tryz.pinned (OpenSpec.upto fnExactPathOfBallSpec)

/-- 'laws.FnExactComesBack', WHERE WHAT IT READS IS OF BULK AT MOST 1048576: true; the input reads as it did. -/
def fnExactComesBackUptoRow : OpenClaim := { program := "ytepmpilopmcjpaagreatdoor", sum := "5e32fc866e53fbb0482f4fa796857781d8238e4a80f1816ee29471d3f3f79b49", func := "loop.example/g01199/laws.FnExactComesBack", spec := "fnExactComesBack", inPlace := ["internal/bytealg.CountString", "internal/bytealg.IndexByteString", "internal/bytealg.IndexString", "internal/abi.NoEscape", "internal/bytealg.MakeNoZero"], unfollowed := true, recurses := true, named := ["unicode/utf8.first", "unicode/utf8.acceptRanges", "internal/bytealg.MaxLen"], apart := false, laid := [("unicode/utf8.acceptRanges", laid_unicode_utf8_acceptRanges), ("unicode/utf8.first", laid_unicode_utf8_first)], narrowed := true }
def FnExactComesBackUptoSaid : Prop := fnExactComesBackUptoRow.holds Tryz.pinned (OpenSpec.upto fnExactComesBackSpec)

/-- 'laws.FnExactPermutationOf', WHERE WHAT IT READS IS OF BULK AT MOST 1048576: true; the input reads as it did. -/
def fnExactPermutationOfUptoRow : OpenClaim := { program := "ytepmpilopmcjpaagreatdoor", sum := "5e32fc866e53fbb0482f4fa796857781d8238e4a80f1816ee29471d3f3f79b49", func := "loop.example/g01199/laws.FnExactPermutationOf", spec := "fnExactPermutationOf", inPlace := ["internal/bytealg.CountString", "internal/bytealg.IndexByteString", "internal/bytealg.IndexString", "internal/abi.NoEscape", "internal/bytealg.MakeNoZero"], unfollowed := true, recurses := true, named := ["unicode/utf8.first", "unicode/utf8.acceptRanges", "internal/bytealg.MaxLen"], apart := false, laid := [("unicode/utf8.acceptRanges", laid_unicode_utf8_acceptRanges), ("unicode/utf8.first", laid_unicode_utf8_first)], narrowed := true }
def FnExactPermutationOfUptoSaid : Prop := fnExactPermutationOfUptoRow.holds Tryz.pinned (OpenSpec.upto fnExactPermutationOfSpec)

/-- 'laws.FnExactIsSolvedBy', WHERE WHAT IT READS IS OF BULK AT MOST 1048576: true; the input reads as it did. -/
def fnExactIsSolvedByUptoRow : OpenClaim := { program := "ytepmpilopmcjpaagreatdoor", sum := "5e32fc866e53fbb0482f4fa796857781d8238e4a80f1816ee29471d3f3f79b49", func := "loop.example/g01199/laws.FnExactIsSolvedBy", spec := "fnExactIsSolvedBy", inPlace := ["internal/bytealg.CountString", "internal/bytealg.IndexByteString", "internal/bytealg.IndexString", "internal/abi.NoEscape", "internal/bytealg.MakeNoZero"], unfollowed := true, recurses := true, named := ["unicode/utf8.first", "unicode/utf8.acceptRanges", "internal/bytealg.MaxLen"], apart := false, laid := [("unicode/utf8.acceptRanges", laid_unicode_utf8_acceptRanges), ("unicode/utf8.first", laid_unicode_utf8_first)], narrowed := true }
def FnExactIsSolvedByUptoSaid : Prop := fnExactIsSolvedByUptoRow.holds Tryz.pinned (OpenSpec.upto fnExactIsSolvedBySpec)

/-- 'laws.FnExactFirstSolved', WHERE WHAT IT READS IS OF BULK AT MOST 1048576: true; the input reads as it did. -/
def fnExactFirstSolvedUptoRow : OpenClaim := { program := "ytepmpilopmcjpaagreatdoor", sum := "5e32fc866e53fbb0482f4fa796857781d8238e4a80f1816ee29471d3f3f79b49", func := "loop.example/g01199/laws.FnExactFirstSolved", spec := "fnExactFirstSolved", inPlace := ["internal/bytealg.CountString", "internal/bytealg.IndexByteString", "internal/bytealg.IndexString", "internal/abi.NoEscape", "internal/bytealg.MakeNoZero"], unfollowed := true, recurses := true, named := ["unicode/utf8.first", "unicode/utf8.acceptRanges", "internal/bytealg.MaxLen"], apart := false, laid := [("unicode/utf8.acceptRanges", laid_unicode_utf8_acceptRanges), ("unicode/utf8.first", laid_unicode_utf8_first)], narrowed := true }
def FnExactFirstSolvedUptoSaid : Prop := fnExactFirstSolvedUptoRow.holds Tryz.pinned (OpenSpec.upto fnExactFirstSolvedSpec)

end Rows
end Go.Proofs.YtepmpilopmcjpaaGreatDoor
