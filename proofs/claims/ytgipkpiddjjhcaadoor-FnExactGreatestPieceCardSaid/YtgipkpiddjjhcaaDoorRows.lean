/-
  NARROWER THAN 'FOR EVERY INPUT', by the rows' own cells (each row's printed sentence says how): FnExactStickStep: laid · FnExactStickMoves: laid · FnExactStickStill: laid · FnExactGreatestPiece: laid · FnExactStickTilt: laid · FnExactStickWord: laid · FnExactWordToOne: laid.
  DERIVED. THE GIVEN ROWS OF THIS SEAT. 7 by the template 'for every input the law returns true; each argument reads behind the call as it read before'; 0 by the template 'total and deterministic' (their statements: YtgipkpiddjjhcaaDoorTotals.lean).
  GIVEN WITH THE SEED: the statements are not yours to turn. If you find one false, say at which input.
  Laid BY PROGRAM, IN A SANDBOX (cutbox-rows.mjs): the forced cells as the released guide's own fill.sh prints them over the translation a34e29b283849210… (all of the seat's roots in one cut). By AI agents, Wed Nov 11 2026. No macro, syntax, notation, axiom, sorry.
-/
import Derived.Test.YtgipkpiddjjhcaaDoorChecked
import GoSem.PinnedTables
import GoSem.Claim
import GoSem.ClaimJoined
import GoSem.ClaimMapViews
import Derived.JoinedTies
import Derived.KernelRfl
namespace Go.Proofs.YtgipkpiddjjhcaaDoor
/- THE CELL 'sum', in the pinned program and in every row, IS THE sha256 OF THE DUMP (.gsa) THAT YtgipkpiddjjhcaaDoorProg.lean LOADS. Nothing in Lean hashes anything: it is a label: what it is worth is what the hold of that sum in a sandbox is worth. -/
noncomputable def Tryd.pinned : Pinned := { name := "ytgipkpiddjjhcaadoor", sum := "a34e29b28384921019bd86d2472bc0848e92a4ccd665e374c610db027effa46d", checked := Tryd.checked }
namespace Rows
def none {H : Type} : Left H := { results := [], args := [] }

/- WHAT THE LISTED PACKAGE-LEVEL VARIABLES READ AS WHEN THE CALL BEGINS. Each datum BY PROGRAM (the guide's laid-datum.mjs) off the statement by which the dump's own 'gosem.cut.vars' lays the variable. In a bare row this is a premise. The card (YtgipkpiddjjhcaaDoorCards.lean) ties it to the program's text. -/
def laid_unicode_utf8_acceptRanges {H : Type} : DataW H := .agg [.agg [.lit (.int .u8 128), .lit (.int .u8 191)], .agg [.lit (.int .u8 160), .lit (.int .u8 191)], .agg [.lit (.int .u8 128), .lit (.int .u8 159)], .agg [.lit (.int .u8 144), .lit (.int .u8 191)], .agg [.lit (.int .u8 128), .lit (.int .u8 143)], .agg [.lit (.int .u8 0), .lit (.int .u8 0)], .agg [.lit (.int .u8 0), .lit (.int .u8 0)], .agg [.lit (.int .u8 0), .lit (.int .u8 0)], .agg [.lit (.int .u8 0), .lit (.int .u8 0)], .agg [.lit (.int .u8 0), .lit (.int .u8 0)], .agg [.lit (.int .u8 0), .lit (.int .u8 0)], .agg [.lit (.int .u8 0), .lit (.int .u8 0)], .agg [.lit (.int .u8 0), .lit (.int .u8 0)], .agg [.lit (.int .u8 0), .lit (.int .u8 0)], .agg [.lit (.int .u8 0), .lit (.int .u8 0)], .agg [.lit (.int .u8 0), .lit (.int .u8 0)]]
/-- One of Go's own tables, pinned by name: the form's constant. -/
def laid_unicode_utf8_first : DataW Unit := Go.Pinned.utf8First

/-- 'laws.FnExactStickStep': WHATEVER THE INPUT: true; the input reads as it did. -/
def fnExactStickStepSpec : ChangeSpec := { name := "fnExactStickStep", fn := fun _ => fun
  | [d1, d2] => { results := [.lit (.bool true)], args := [d1, d2] }
  | _ => none }
def fnExactStickStepRow : OpenClaim := { program := "ytgipkpiddjjhcaadoor", sum := "a34e29b28384921019bd86d2472bc0848e92a4ccd665e374c610db027effa46d", func := "loop.example/g01199/laws.FnExactStickStep", spec := "fnExactStickStep", inPlace := ["internal/bytealg.CountString", "internal/bytealg.IndexByteString", "internal/bytealg.IndexString", "internal/abi.NoEscape", "internal/bytealg.MakeNoZero"], unfollowed := true, recurses := true, named := ["unicode/utf8.first", "unicode/utf8.acceptRanges", "internal/bytealg.MaxLen"], apart := false, laid := [("unicode/utf8.acceptRanges", laid_unicode_utf8_acceptRanges), ("unicode/utf8.first", laid_unicode_utf8_first)] }
def FnExactStickStepSaid : Prop := fnExactStickStepRow.holds Tryd.pinned (OpenSpec.ofChange fnExactStickStepSpec)

/-- ITS FALSE NEIGHBOUR: 'it returns false'. Refute it at one input. -/
def fnExactStickStepWrong : ChangeSpec := { name := "fnExactStickStep", fn := fun _ => fun
  | [d1, d2] => { results := [.lit (.bool false)], args := [d1, d2] }
  | _ => none }
def FnExactStickStepWrongFalsely : Prop := fnExactStickStepRow.holds Tryd.pinned (OpenSpec.ofChange fnExactStickStepWrong)

/-- 'laws.FnExactStickMoves': WHATEVER THE INPUT: true; the input reads as it did. -/
def fnExactStickMovesSpec : ChangeSpec := { name := "fnExactStickMoves", fn := fun _ => fun
  | [d1, d2] => { results := [.lit (.bool true)], args := [d1, d2] }
  | _ => none }
def fnExactStickMovesRow : OpenClaim := { program := "ytgipkpiddjjhcaadoor", sum := "a34e29b28384921019bd86d2472bc0848e92a4ccd665e374c610db027effa46d", func := "loop.example/g01199/laws.FnExactStickMoves", spec := "fnExactStickMoves", inPlace := ["internal/bytealg.CountString", "internal/bytealg.IndexByteString", "internal/bytealg.IndexString", "internal/abi.NoEscape", "internal/bytealg.MakeNoZero"], unfollowed := true, recurses := true, named := ["unicode/utf8.first", "unicode/utf8.acceptRanges", "internal/bytealg.MaxLen"], apart := false, laid := [("unicode/utf8.acceptRanges", laid_unicode_utf8_acceptRanges), ("unicode/utf8.first", laid_unicode_utf8_first)] }
def FnExactStickMovesSaid : Prop := fnExactStickMovesRow.holds Tryd.pinned (OpenSpec.ofChange fnExactStickMovesSpec)

/-- ITS FALSE NEIGHBOUR: 'it returns false'. Refute it at one input. -/
def fnExactStickMovesWrong : ChangeSpec := { name := "fnExactStickMoves", fn := fun _ => fun
  | [d1, d2] => { results := [.lit (.bool false)], args := [d1, d2] }
  | _ => none }
def FnExactStickMovesWrongFalsely : Prop := fnExactStickMovesRow.holds Tryd.pinned (OpenSpec.ofChange fnExactStickMovesWrong)

/-- 'laws.FnExactStickStill': WHATEVER THE INPUT: true; the input reads as it did. -/
def fnExactStickStillSpec : ChangeSpec := { name := "fnExactStickStill", fn := fun _ => fun
  | [d] => { results := [.lit (.bool true)], args := [d] }
  | _ => none }
def fnExactStickStillRow : OpenClaim := { program := "ytgipkpiddjjhcaadoor", sum := "a34e29b28384921019bd86d2472bc0848e92a4ccd665e374c610db027effa46d", func := "loop.example/g01199/laws.FnExactStickStill", spec := "fnExactStickStill", inPlace := ["internal/bytealg.CountString", "internal/bytealg.IndexByteString", "internal/bytealg.IndexString", "internal/abi.NoEscape", "internal/bytealg.MakeNoZero"], unfollowed := true, recurses := true, named := ["unicode/utf8.first", "unicode/utf8.acceptRanges", "internal/bytealg.MaxLen"], apart := false, laid := [("unicode/utf8.acceptRanges", laid_unicode_utf8_acceptRanges), ("unicode/utf8.first", laid_unicode_utf8_first)] }
def FnExactStickStillSaid : Prop := fnExactStickStillRow.holds Tryd.pinned (OpenSpec.ofChange fnExactStickStillSpec)

/-- ITS FALSE NEIGHBOUR: 'it returns false'. Refute it at one input. -/
def fnExactStickStillWrong : ChangeSpec := { name := "fnExactStickStill", fn := fun _ => fun
  | [d] => { results := [.lit (.bool false)], args := [d] }
  | _ => none }
def FnExactStickStillWrongFalsely : Prop := fnExactStickStillRow.holds Tryd.pinned (OpenSpec.ofChange fnExactStickStillWrong)

/-- 'laws.FnExactGreatestPiece': WHATEVER THE INPUT: true; the input reads as it did. -/
def fnExactGreatestPieceSpec : ChangeSpec := { name := "fnExactGreatestPiece", fn := fun _ => fun
  | [d1, d2] => { results := [.lit (.bool true)], args := [d1, d2] }
  | _ => none }
def fnExactGreatestPieceRow : OpenClaim := { program := "ytgipkpiddjjhcaadoor", sum := "a34e29b28384921019bd86d2472bc0848e92a4ccd665e374c610db027effa46d", func := "loop.example/g01199/laws.FnExactGreatestPiece", spec := "fnExactGreatestPiece", inPlace := ["internal/bytealg.CountString", "internal/bytealg.IndexByteString", "internal/bytealg.IndexString", "internal/abi.NoEscape", "internal/bytealg.MakeNoZero"], unfollowed := true, recurses := true, named := ["unicode/utf8.first", "unicode/utf8.acceptRanges", "internal/bytealg.MaxLen"], apart := false, laid := [("unicode/utf8.acceptRanges", laid_unicode_utf8_acceptRanges), ("unicode/utf8.first", laid_unicode_utf8_first)] }
def FnExactGreatestPieceSaid : Prop := fnExactGreatestPieceRow.holds Tryd.pinned (OpenSpec.ofChange fnExactGreatestPieceSpec)

/-- ITS FALSE NEIGHBOUR: 'it returns false'. Refute it at one input. -/
def fnExactGreatestPieceWrong : ChangeSpec := { name := "fnExactGreatestPiece", fn := fun _ => fun
  | [d1, d2] => { results := [.lit (.bool false)], args := [d1, d2] }
  | _ => none }
def FnExactGreatestPieceWrongFalsely : Prop := fnExactGreatestPieceRow.holds Tryd.pinned (OpenSpec.ofChange fnExactGreatestPieceWrong)

/-- 'laws.FnExactStickTilt': WHATEVER THE INPUT: true; the input reads as it did. -/
def fnExactStickTiltSpec : ChangeSpec := { name := "fnExactStickTilt", fn := fun _ => fun
  | [d1, d2] => { results := [.lit (.bool true)], args := [d1, d2] }
  | _ => none }
def fnExactStickTiltRow : OpenClaim := { program := "ytgipkpiddjjhcaadoor", sum := "a34e29b28384921019bd86d2472bc0848e92a4ccd665e374c610db027effa46d", func := "loop.example/g01199/laws.FnExactStickTilt", spec := "fnExactStickTilt", inPlace := ["internal/bytealg.CountString", "internal/bytealg.IndexByteString", "internal/bytealg.IndexString", "internal/abi.NoEscape", "internal/bytealg.MakeNoZero"], unfollowed := true, recurses := true, named := ["unicode/utf8.first", "unicode/utf8.acceptRanges", "internal/bytealg.MaxLen"], apart := false, laid := [("unicode/utf8.acceptRanges", laid_unicode_utf8_acceptRanges), ("unicode/utf8.first", laid_unicode_utf8_first)] }
def FnExactStickTiltSaid : Prop := fnExactStickTiltRow.holds Tryd.pinned (OpenSpec.ofChange fnExactStickTiltSpec)

/-- ITS FALSE NEIGHBOUR: 'it returns false'. Refute it at one input. -/
def fnExactStickTiltWrong : ChangeSpec := { name := "fnExactStickTilt", fn := fun _ => fun
  | [d1, d2] => { results := [.lit (.bool false)], args := [d1, d2] }
  | _ => none }
def FnExactStickTiltWrongFalsely : Prop := fnExactStickTiltRow.holds Tryd.pinned (OpenSpec.ofChange fnExactStickTiltWrong)

/-- 'laws.FnExactStickWord': WHATEVER THE INPUT: true; the input reads as it did. -/
def fnExactStickWordSpec : ChangeSpec := { name := "fnExactStickWord", fn := fun _ => fun
  | [d1, d2] => { results := [.lit (.bool true)], args := [d1, d2] }
  | _ => none }
def fnExactStickWordRow : OpenClaim := { program := "ytgipkpiddjjhcaadoor", sum := "a34e29b28384921019bd86d2472bc0848e92a4ccd665e374c610db027effa46d", func := "loop.example/g01199/laws.FnExactStickWord", spec := "fnExactStickWord", inPlace := ["internal/bytealg.CountString", "internal/bytealg.IndexByteString", "internal/bytealg.IndexString", "internal/abi.NoEscape", "internal/bytealg.MakeNoZero"], unfollowed := true, recurses := true, named := ["unicode/utf8.first", "unicode/utf8.acceptRanges", "internal/bytealg.MaxLen"], apart := false, laid := [("unicode/utf8.acceptRanges", laid_unicode_utf8_acceptRanges), ("unicode/utf8.first", laid_unicode_utf8_first)] }
def FnExactStickWordSaid : Prop := fnExactStickWordRow.holds Tryd.pinned (OpenSpec.ofChange fnExactStickWordSpec)

/-- ITS FALSE NEIGHBOUR: 'it returns false'. Refute it at one input. -/
def fnExactStickWordWrong : ChangeSpec := { name := "fnExactStickWord", fn := fun _ => fun
  | [d1, d2] => { results := [.lit (.bool false)], args := [d1, d2] }
  | _ => none }
def FnExactStickWordWrongFalsely : Prop := fnExactStickWordRow.holds Tryd.pinned (OpenSpec.ofChange fnExactStickWordWrong)

/-- 'laws.FnExactWordToOne': WHATEVER THE INPUT: true; the input reads as it did. -/
def fnExactWordToOneSpec : ChangeSpec := { name := "fnExactWordToOne", fn := fun _ => fun
  | [d] => { results := [.lit (.bool true)], args := [d] }
  | _ => none }
def fnExactWordToOneRow : OpenClaim := { program := "ytgipkpiddjjhcaadoor", sum := "a34e29b28384921019bd86d2472bc0848e92a4ccd665e374c610db027effa46d", func := "loop.example/g01199/laws.FnExactWordToOne", spec := "fnExactWordToOne", inPlace := ["internal/bytealg.CountString", "internal/bytealg.IndexByteString", "internal/bytealg.IndexString", "internal/abi.NoEscape", "internal/bytealg.MakeNoZero"], unfollowed := true, recurses := true, named := ["unicode/utf8.first", "unicode/utf8.acceptRanges", "internal/bytealg.MaxLen"], apart := false, laid := [("unicode/utf8.acceptRanges", laid_unicode_utf8_acceptRanges), ("unicode/utf8.first", laid_unicode_utf8_first)] }
def FnExactWordToOneSaid : Prop := fnExactWordToOneRow.holds Tryd.pinned (OpenSpec.ofChange fnExactWordToOneSpec)

/-- ITS FALSE NEIGHBOUR: 'it returns false'. Refute it at one input. -/
def fnExactWordToOneWrong : ChangeSpec := { name := "fnExactWordToOne", fn := fun _ => fun
  | [d] => { results := [.lit (.bool false)], args := [d] }
  | _ => none }
def FnExactWordToOneWrongFalsely : Prop := fnExactWordToOneRow.holds Tryd.pinned (OpenSpec.ofChange fnExactWordToOneWrong)

/- THE SECOND FORM. 'bulk': how many values and letters a reading holds, each counted each time it is reached (what is shared counts as often as it is met; a slice's spare places count too). A statement '..UptoSaid' is the law's where the arguments, and the package variables that the reading takes, are together of bulk at most 1048576: NARROWER than '..Said'. Prove '..Said' where nothing that the law and all that it calls make is longer than what came in: it says more and counts as full. Else prove '..UptoSaid'. A law counts once. -/
mutual
def uptoBulk {H : Type} : DataW H → Nat
  | .lit (.string bytes) => bytes.length + 1
  | .lit _ => 1
  | .nil => 1
  | .ptr d => uptoBulk d + 1
  | .slice elems spare => uptoBulkAll elems + uptoBulkAll spare + 1
  | .agg parts => uptoBulkAll parts + 1
  | .iface _ d => uptoBulk d + 1
  | .map entries => uptoBulkEntries entries + 1
  | .held _ => 1
def uptoBulkAll {H : Type} : List (DataW H) → Nat
  | [] => 0
  | d :: r => uptoBulk d + uptoBulkAll r
def uptoBulkEntries {H : Type} : List (Lit × DataW H) → Nat
  | [] => 0
  | x :: r => uptoBulkEntry x + uptoBulkEntries r
def uptoBulkEntry {H : Type} : Lit × DataW H → Nat
  | (.string bytes, d) => bytes.length + uptoBulk d + 1
  | (_, d) => uptoBulk d + 1
 end
def uptoSmall : (H : Type) → List (DataW H) → Bool := fun _ ds => decide (uptoBulkAll ds ≤ 1048576)
def OpenSpec.upto (s : _root_.Go.ChangeSpec) : _root_.Go.OpenSpec := { _root_.Go.OpenSpec.ofChange s with cond := some uptoSmall }

/-- 'laws.FnExactStickStep', WHERE WHAT IT READS IS OF BULK AT MOST 1048576: true; the input reads as it did. -/
def fnExactStickStepUptoRow : OpenClaim := { program := "ytgipkpiddjjhcaadoor", sum := "a34e29b28384921019bd86d2472bc0848e92a4ccd665e374c610db027effa46d", func := "loop.example/g01199/laws.FnExactStickStep", spec := "fnExactStickStep", inPlace := ["internal/bytealg.CountString", "internal/bytealg.IndexByteString", "internal/bytealg.IndexString", "internal/abi.NoEscape", "internal/bytealg.MakeNoZero"], unfollowed := true, recurses := true, named := ["unicode/utf8.first", "unicode/utf8.acceptRanges", "internal/bytealg.MaxLen"], apart := false, laid := [("unicode/utf8.acceptRanges", laid_unicode_utf8_acceptRanges), ("unicode/utf8.first", laid_unicode_utf8_first)], narrowed := true }
def FnExactStickStepUptoSaid : Prop := fnExactStickStepUptoRow.holds Tryd.pinned (OpenSpec.upto fnExactStickStepSpec)

/-- 'laws.FnExactStickMoves', WHERE WHAT IT READS IS OF BULK AT MOST 1048576: true; the input reads as it did. -/
def fnExactStickMovesUptoRow : OpenClaim := { program := "ytgipkpiddjjhcaadoor", sum := "a34e29b28384921019bd86d2472bc0848e92a4ccd665e374c610db027effa46d", func := "loop.example/g01199/laws.FnExactStickMoves", spec := "fnExactStickMoves", inPlace := ["internal/bytealg.CountString", "internal/bytealg.IndexByteString", "internal/bytealg.IndexString", "internal/abi.NoEscape", "internal/bytealg.MakeNoZero"], unfollowed := true, recurses := true, named := ["unicode/utf8.first", "unicode/utf8.acceptRanges", "internal/bytealg.MaxLen"], apart := false, laid := [("unicode/utf8.acceptRanges", laid_unicode_utf8_acceptRanges), ("unicode/utf8.first", laid_unicode_utf8_first)], narrowed := true }
def FnExactStickMovesUptoSaid : Prop := fnExactStickMovesUptoRow.holds Tryd.pinned (OpenSpec.upto fnExactStickMovesSpec)

/-- 'laws.FnExactStickStill', WHERE WHAT IT READS IS OF BULK AT MOST 1048576: true; the input reads as it did. -/
def fnExactStickStillUptoRow : OpenClaim := { program := "ytgipkpiddjjhcaadoor", sum := "a34e29b28384921019bd86d2472bc0848e92a4ccd665e374c610db027effa46d", func := "loop.example/g01199/laws.FnExactStickStill", spec := "fnExactStickStill", inPlace := ["internal/bytealg.CountString", "internal/bytealg.IndexByteString", "internal/bytealg.IndexString", "internal/abi.NoEscape", "internal/bytealg.MakeNoZero"], unfollowed := true, recurses := true, named := ["unicode/utf8.first", "unicode/utf8.acceptRanges", "internal/bytealg.MaxLen"], apart := false, laid := [("unicode/utf8.acceptRanges", laid_unicode_utf8_acceptRanges), ("unicode/utf8.first", laid_unicode_utf8_first)], narrowed := true }
def FnExactStickStillUptoSaid : Prop := fnExactStickStillUptoRow.holds Tryd.pinned (OpenSpec.upto fnExactStickStillSpec)

/-- 'laws.FnExactGreatestPiece', WHERE WHAT IT READS IS OF BULK AT MOST 1048576: true; the input reads as it did. -/
def fnExactGreatestPieceUptoRow : OpenClaim := { program := "ytgipkpiddjjhcaadoor", sum := "a34e29b28384921019bd86d2472bc0848e92a4ccd665e374c610db027effa46d", func := "loop.example/g01199/laws.FnExactGreatestPiece", spec := "fnExactGreatestPiece", inPlace := ["internal/bytealg.CountString", "internal/bytealg.IndexByteString", "internal/bytealg.IndexString", "internal/abi.NoEscape", "internal/bytealg.MakeNoZero"], unfollowed := true, recurses := true, named := ["unicode/utf8.first", "unicode/utf8.acceptRanges", "internal/bytealg.MaxLen"], apart := false, laid := [("unicode/utf8.acceptRanges", laid_unicode_utf8_acceptRanges), ("unicode/utf8.first", laid_unicode_utf8_first)], narrowed := true }
def FnExactGreatestPieceUptoSaid : Prop := fnExactGreatestPieceUptoRow.holds Tryd.pinned (OpenSpec.upto fnExactGreatestPieceSpec)

/-- 'laws.FnExactStickTilt', WHERE WHAT IT READS IS OF BULK AT MOST 1048576: true; the input reads as it did. -/
def fnExactStickTiltUptoRow : OpenClaim := { program := "ytgipkpiddjjhcaadoor", sum := "a34e29b28384921019bd86d2472bc0848e92a4ccd665e374c610db027effa46d", func := "loop.example/g01199/laws.FnExactStickTilt", spec := "fnExactStickTilt", inPlace := ["internal/bytealg.CountString", "internal/bytealg.IndexByteString", "internal/bytealg.IndexString", "internal/abi.NoEscape", "internal/bytealg.MakeNoZero"], unfollowed := true, recurses := true, named := ["unicode/utf8.first", "unicode/utf8.acceptRanges", "internal/bytealg.MaxLen"], apart := false, laid := [("unicode/utf8.acceptRanges", laid_unicode_utf8_acceptRanges), ("unicode/utf8.first", laid_unicode_utf8_first)], narrowed := true }
def FnExactStickTiltUptoSaid : Prop := fnExactStickTiltUptoRow.holds Tryd.pinned (OpenSpec.upto fnExactStickTiltSpec)

/-- 'laws.FnExactStickWord', WHERE WHAT IT READS IS OF BULK AT MOST 1048576: true; the input reads as it did. -/
def fnExactStickWordUptoRow : OpenClaim := { program := "ytgipkpiddjjhcaadoor", sum := "a34e29b28384921019bd86d2472bc0848e92a4ccd665e374c610db027effa46d", func := "loop.example/g01199/laws.FnExactStickWord", spec := "fnExactStickWord", inPlace := ["internal/bytealg.CountString", "internal/bytealg.IndexByteString", "internal/bytealg.IndexString", "internal/abi.NoEscape", "internal/bytealg.MakeNoZero"], unfollowed := true, recurses := true, named := ["unicode/utf8.first", "unicode/utf8.acceptRanges", "internal/bytealg.MaxLen"], apart := false, laid := [("unicode/utf8.acceptRanges", laid_unicode_utf8_acceptRanges), ("unicode/utf8.first", laid_unicode_utf8_first)], narrowed := true }
def FnExactStickWordUptoSaid : Prop := fnExactStickWordUptoRow.holds Tryd.pinned (OpenSpec.upto fnExactStickWordSpec)

/-- 'laws.FnExactWordToOne', WHERE WHAT IT READS IS OF BULK AT MOST 1048576: true; the input reads as it did. -/
def fnExactWordToOneUptoRow : OpenClaim := { program := "ytgipkpiddjjhcaadoor", sum := "a34e29b28384921019bd86d2472bc0848e92a4ccd665e374c610db027effa46d", func := "loop.example/g01199/laws.FnExactWordToOne", spec := "fnExactWordToOne", inPlace := ["internal/bytealg.CountString", "internal/bytealg.IndexByteString", "internal/bytealg.IndexString", "internal/abi.NoEscape", "internal/bytealg.MakeNoZero"], unfollowed := true, recurses := true, named := ["unicode/utf8.first", "unicode/utf8.acceptRanges", "internal/bytealg.MaxLen"], apart := false, laid := [("unicode/utf8.acceptRanges", laid_unicode_utf8_acceptRanges), ("unicode/utf8.first", laid_unicode_utf8_first)], narrowed := true }
def FnExactWordToOneUptoSaid : Prop := fnExactWordToOneUptoRow.holds Tryd.pinned (OpenSpec.upto fnExactWordToOneSpec)

end Rows
end Go.Proofs.YtgipkpiddjjhcaaDoor
