/-
  NARROWER THAN 'FOR EVERY INPUT', by the rows' own cells (each row's printed sentence says how): FnExactPieceAt: laid · FnExactTurnForm: laid · FnExactFreeWays: laid · FnExactBlockedPieces: laid · FnExactCanAdd: laid · FnExactAddCell: laid · FnExactTakeCell: laid.
  DERIVED. THE GIVEN ROWS OF THIS SEAT. 7 by the template 'for every input the law returns true; each argument reads behind the call as it read before'; 0 by the template 'total and deterministic' (their statements: YtbplbbialcbceaaDoorTotals.lean).
  GIVEN WITH THE SEED: the statements are not yours to turn. If you find one false, say at which input.
  Laid BY PROGRAM, IN A SANDBOX (cutbox-rows.mjs): the forced cells as the released guide's own fill.sh prints them over the translation cbd232f7b8b16749… (all of the seat's roots in one cut). By AI agents, Wed Nov 11 2026. No macro, syntax, notation, axiom, sorry.
-/
import Derived.Test.YtbplbbialcbceaaDoorChecked
import GoSem.PinnedTables
import GoSem.Claim
import GoSem.ClaimJoined
import GoSem.ClaimMapViews
import Derived.JoinedTies
import Derived.KernelRfl
namespace Go.Proofs.YtbplbbialcbceaaDoor
/- THE CELL 'sum', in the pinned program and in every row, IS THE sha256 OF THE DUMP (.gsa) THAT YtbplbbialcbceaaDoorProg.lean LOADS. Nothing in Lean hashes anything: it is a label: what it is worth is what the hold of that sum in a sandbox is worth. -/
noncomputable def Tryd.pinned : Pinned := { name := "ytbplbbialcbceaadoor", sum := "cbd232f7b8b167495574a9d8d4cbf00b15296275d261bb185f412fee7e7e2752", checked := Tryd.checked }
namespace Rows
def none {H : Type} : Left H := { results := [], args := [] }

/- WHAT THE LISTED PACKAGE-LEVEL VARIABLES READ AS WHEN THE CALL BEGINS. Each datum BY PROGRAM (the guide's laid-datum.mjs) off the statement by which the dump's own 'gosem.cut.vars' lays the variable. In a bare row this is a premise. The card (YtbplbbialcbceaaDoorCards.lean) ties it to the program's text. -/
def laid_unicode_utf8_acceptRanges {H : Type} : DataW H := .agg [.agg [.lit (.int .u8 128), .lit (.int .u8 191)], .agg [.lit (.int .u8 160), .lit (.int .u8 191)], .agg [.lit (.int .u8 128), .lit (.int .u8 159)], .agg [.lit (.int .u8 144), .lit (.int .u8 191)], .agg [.lit (.int .u8 128), .lit (.int .u8 143)], .agg [.lit (.int .u8 0), .lit (.int .u8 0)], .agg [.lit (.int .u8 0), .lit (.int .u8 0)], .agg [.lit (.int .u8 0), .lit (.int .u8 0)], .agg [.lit (.int .u8 0), .lit (.int .u8 0)], .agg [.lit (.int .u8 0), .lit (.int .u8 0)], .agg [.lit (.int .u8 0), .lit (.int .u8 0)], .agg [.lit (.int .u8 0), .lit (.int .u8 0)], .agg [.lit (.int .u8 0), .lit (.int .u8 0)], .agg [.lit (.int .u8 0), .lit (.int .u8 0)], .agg [.lit (.int .u8 0), .lit (.int .u8 0)], .agg [.lit (.int .u8 0), .lit (.int .u8 0)]]
/-- One of Go's own tables, pinned by name: the form's constant. -/
def laid_unicode_utf8_first : DataW Unit := Go.Pinned.utf8First

/-- 'laws.FnExactPieceAt': WHATEVER THE INPUT: true; the input reads as it did. -/
def fnExactPieceAtSpec : ChangeSpec := { name := "fnExactPieceAt", fn := fun _ => fun
  | [d1, d2] => { results := [.lit (.bool true)], args := [d1, d2] }
  | _ => none }
def fnExactPieceAtRow : OpenClaim := { program := "ytbplbbialcbceaadoor", sum := "cbd232f7b8b167495574a9d8d4cbf00b15296275d261bb185f412fee7e7e2752", func := "loop.example/g01199/laws.FnExactPieceAt", spec := "fnExactPieceAt", inPlace := ["internal/bytealg.CountString", "internal/bytealg.IndexByteString", "internal/bytealg.IndexString", "internal/abi.NoEscape", "internal/bytealg.MakeNoZero"], unfollowed := true, recurses := true, named := ["unicode/utf8.first", "unicode/utf8.acceptRanges", "internal/bytealg.MaxLen"], apart := false, laid := [("unicode/utf8.acceptRanges", laid_unicode_utf8_acceptRanges), ("unicode/utf8.first", laid_unicode_utf8_first)] }
def FnExactPieceAtSaid : Prop := fnExactPieceAtRow.holds Tryd.pinned (OpenSpec.ofChange fnExactPieceAtSpec)

/-- ITS FALSE NEIGHBOUR: 'it returns false'. Refute it at one input. -/
def fnExactPieceAtWrong : ChangeSpec := { name := "fnExactPieceAt", fn := fun _ => fun
  | [d1, d2] => { results := [.lit (.bool false)], args := [d1, d2] }
  | _ => none }
def FnExactPieceAtWrongFalsely : Prop := fnExactPieceAtRow.holds Tryd.pinned (OpenSpec.ofChange fnExactPieceAtWrong)

/-- 'laws.FnExactTurnForm': WHATEVER THE INPUT: true; the input reads as it did. -/
def fnExactTurnFormSpec : ChangeSpec := { name := "fnExactTurnForm", fn := fun _ => fun
  | [d] => { results := [.lit (.bool true)], args := [d] }
  | _ => none }
def fnExactTurnFormRow : OpenClaim := { program := "ytbplbbialcbceaadoor", sum := "cbd232f7b8b167495574a9d8d4cbf00b15296275d261bb185f412fee7e7e2752", func := "loop.example/g01199/laws.FnExactTurnForm", spec := "fnExactTurnForm", inPlace := ["internal/bytealg.CountString", "internal/bytealg.IndexByteString", "internal/bytealg.IndexString", "internal/abi.NoEscape", "internal/bytealg.MakeNoZero"], unfollowed := true, recurses := true, named := ["unicode/utf8.first", "unicode/utf8.acceptRanges", "internal/bytealg.MaxLen"], apart := false, laid := [("unicode/utf8.acceptRanges", laid_unicode_utf8_acceptRanges), ("unicode/utf8.first", laid_unicode_utf8_first)] }
def FnExactTurnFormSaid : Prop := fnExactTurnFormRow.holds Tryd.pinned (OpenSpec.ofChange fnExactTurnFormSpec)

/-- ITS FALSE NEIGHBOUR: 'it returns false'. Refute it at one input. -/
def fnExactTurnFormWrong : ChangeSpec := { name := "fnExactTurnForm", fn := fun _ => fun
  | [d] => { results := [.lit (.bool false)], args := [d] }
  | _ => none }
def FnExactTurnFormWrongFalsely : Prop := fnExactTurnFormRow.holds Tryd.pinned (OpenSpec.ofChange fnExactTurnFormWrong)

/-- 'laws.FnExactFreeWays': WHATEVER THE INPUT: true; the input reads as it did. -/
def fnExactFreeWaysSpec : ChangeSpec := { name := "fnExactFreeWays", fn := fun _ => fun
  | [d1, d2] => { results := [.lit (.bool true)], args := [d1, d2] }
  | _ => none }
def fnExactFreeWaysRow : OpenClaim := { program := "ytbplbbialcbceaadoor", sum := "cbd232f7b8b167495574a9d8d4cbf00b15296275d261bb185f412fee7e7e2752", func := "loop.example/g01199/laws.FnExactFreeWays", spec := "fnExactFreeWays", inPlace := ["internal/bytealg.CountString", "internal/bytealg.IndexByteString", "internal/bytealg.IndexString", "internal/abi.NoEscape", "internal/bytealg.MakeNoZero"], unfollowed := true, recurses := true, named := ["unicode/utf8.first", "unicode/utf8.acceptRanges", "internal/bytealg.MaxLen"], apart := false, laid := [("unicode/utf8.acceptRanges", laid_unicode_utf8_acceptRanges), ("unicode/utf8.first", laid_unicode_utf8_first)] }
def FnExactFreeWaysSaid : Prop := fnExactFreeWaysRow.holds Tryd.pinned (OpenSpec.ofChange fnExactFreeWaysSpec)

/-- ITS FALSE NEIGHBOUR: 'it returns false'. Refute it at one input. -/
def fnExactFreeWaysWrong : ChangeSpec := { name := "fnExactFreeWays", fn := fun _ => fun
  | [d1, d2] => { results := [.lit (.bool false)], args := [d1, d2] }
  | _ => none }
def FnExactFreeWaysWrongFalsely : Prop := fnExactFreeWaysRow.holds Tryd.pinned (OpenSpec.ofChange fnExactFreeWaysWrong)

/-- 'laws.FnExactBlockedPieces': WHATEVER THE INPUT: true; the input reads as it did. -/
def fnExactBlockedPiecesSpec : ChangeSpec := { name := "fnExactBlockedPieces", fn := fun _ => fun
  | [d1, d2] => { results := [.lit (.bool true)], args := [d1, d2] }
  | _ => none }
def fnExactBlockedPiecesRow : OpenClaim := { program := "ytbplbbialcbceaadoor", sum := "cbd232f7b8b167495574a9d8d4cbf00b15296275d261bb185f412fee7e7e2752", func := "loop.example/g01199/laws.FnExactBlockedPieces", spec := "fnExactBlockedPieces", inPlace := ["internal/bytealg.CountString", "internal/bytealg.IndexByteString", "internal/bytealg.IndexString", "internal/abi.NoEscape", "internal/bytealg.MakeNoZero"], unfollowed := true, recurses := true, named := ["unicode/utf8.first", "unicode/utf8.acceptRanges", "internal/bytealg.MaxLen"], apart := false, laid := [("unicode/utf8.acceptRanges", laid_unicode_utf8_acceptRanges), ("unicode/utf8.first", laid_unicode_utf8_first)] }
def FnExactBlockedPiecesSaid : Prop := fnExactBlockedPiecesRow.holds Tryd.pinned (OpenSpec.ofChange fnExactBlockedPiecesSpec)

/-- ITS FALSE NEIGHBOUR: 'it returns false'. Refute it at one input. -/
def fnExactBlockedPiecesWrong : ChangeSpec := { name := "fnExactBlockedPieces", fn := fun _ => fun
  | [d1, d2] => { results := [.lit (.bool false)], args := [d1, d2] }
  | _ => none }
def FnExactBlockedPiecesWrongFalsely : Prop := fnExactBlockedPiecesRow.holds Tryd.pinned (OpenSpec.ofChange fnExactBlockedPiecesWrong)

/-- 'laws.FnExactCanAdd': WHATEVER THE INPUT: true; the input reads as it did. -/
def fnExactCanAddSpec : ChangeSpec := { name := "fnExactCanAdd", fn := fun _ => fun
  | [d1, d2, d3] => { results := [.lit (.bool true)], args := [d1, d2, d3] }
  | _ => none }
def fnExactCanAddRow : OpenClaim := { program := "ytbplbbialcbceaadoor", sum := "cbd232f7b8b167495574a9d8d4cbf00b15296275d261bb185f412fee7e7e2752", func := "loop.example/g01199/laws.FnExactCanAdd", spec := "fnExactCanAdd", inPlace := ["internal/bytealg.CountString", "internal/bytealg.IndexByteString", "internal/bytealg.IndexString", "internal/abi.NoEscape", "internal/bytealg.MakeNoZero"], unfollowed := true, recurses := true, named := ["unicode/utf8.first", "unicode/utf8.acceptRanges", "internal/bytealg.MaxLen"], apart := false, laid := [("unicode/utf8.acceptRanges", laid_unicode_utf8_acceptRanges), ("unicode/utf8.first", laid_unicode_utf8_first)] }
def FnExactCanAddSaid : Prop := fnExactCanAddRow.holds Tryd.pinned (OpenSpec.ofChange fnExactCanAddSpec)

/-- ITS FALSE NEIGHBOUR: 'it returns false'. Refute it at one input. -/
def fnExactCanAddWrong : ChangeSpec := { name := "fnExactCanAdd", fn := fun _ => fun
  | [d1, d2, d3] => { results := [.lit (.bool false)], args := [d1, d2, d3] }
  | _ => none }
def FnExactCanAddWrongFalsely : Prop := fnExactCanAddRow.holds Tryd.pinned (OpenSpec.ofChange fnExactCanAddWrong)

/-- 'laws.FnExactAddCell': WHATEVER THE INPUT: true; the input reads as it did. -/
def fnExactAddCellSpec : ChangeSpec := { name := "fnExactAddCell", fn := fun _ => fun
  | [d1, d2] => { results := [.lit (.bool true)], args := [d1, d2] }
  | _ => none }
def fnExactAddCellRow : OpenClaim := { program := "ytbplbbialcbceaadoor", sum := "cbd232f7b8b167495574a9d8d4cbf00b15296275d261bb185f412fee7e7e2752", func := "loop.example/g01199/laws.FnExactAddCell", spec := "fnExactAddCell", inPlace := ["internal/bytealg.CountString", "internal/bytealg.IndexByteString", "internal/bytealg.IndexString", "internal/abi.NoEscape", "internal/bytealg.MakeNoZero"], unfollowed := true, recurses := true, named := ["unicode/utf8.first", "unicode/utf8.acceptRanges", "internal/bytealg.MaxLen"], apart := false, laid := [("unicode/utf8.acceptRanges", laid_unicode_utf8_acceptRanges), ("unicode/utf8.first", laid_unicode_utf8_first)] }
def FnExactAddCellSaid : Prop := fnExactAddCellRow.holds Tryd.pinned (OpenSpec.ofChange fnExactAddCellSpec)

/-- ITS FALSE NEIGHBOUR: 'it returns false'. Refute it at one input. -/
def fnExactAddCellWrong : ChangeSpec := { name := "fnExactAddCell", fn := fun _ => fun
  | [d1, d2] => { results := [.lit (.bool false)], args := [d1, d2] }
  | _ => none }
def FnExactAddCellWrongFalsely : Prop := fnExactAddCellRow.holds Tryd.pinned (OpenSpec.ofChange fnExactAddCellWrong)

/-- 'laws.FnExactTakeCell': WHATEVER THE INPUT: true; the input reads as it did. -/
def fnExactTakeCellSpec : ChangeSpec := { name := "fnExactTakeCell", fn := fun _ => fun
  | [d1, d2] => { results := [.lit (.bool true)], args := [d1, d2] }
  | _ => none }
def fnExactTakeCellRow : OpenClaim := { program := "ytbplbbialcbceaadoor", sum := "cbd232f7b8b167495574a9d8d4cbf00b15296275d261bb185f412fee7e7e2752", func := "loop.example/g01199/laws.FnExactTakeCell", spec := "fnExactTakeCell", inPlace := ["internal/bytealg.CountString", "internal/bytealg.IndexByteString", "internal/bytealg.IndexString", "internal/abi.NoEscape", "internal/bytealg.MakeNoZero"], unfollowed := true, recurses := true, named := ["unicode/utf8.first", "unicode/utf8.acceptRanges", "internal/bytealg.MaxLen"], apart := false, laid := [("unicode/utf8.acceptRanges", laid_unicode_utf8_acceptRanges), ("unicode/utf8.first", laid_unicode_utf8_first)] }
def FnExactTakeCellSaid : Prop := fnExactTakeCellRow.holds Tryd.pinned (OpenSpec.ofChange fnExactTakeCellSpec)

/-- ITS FALSE NEIGHBOUR: 'it returns false'. Refute it at one input. -/
def fnExactTakeCellWrong : ChangeSpec := { name := "fnExactTakeCell", fn := fun _ => fun
  | [d1, d2] => { results := [.lit (.bool false)], args := [d1, d2] }
  | _ => none }
def FnExactTakeCellWrongFalsely : Prop := fnExactTakeCellRow.holds Tryd.pinned (OpenSpec.ofChange fnExactTakeCellWrong)

/- THE SECOND FORM. 'bulk': how many values and letters a reading holds, each counted each time it is reached (what is shared counts as often as it is met; a slice's spare places count too). A statement '..UptoSaid' is the law's where the arguments, and the package variables that the reading takes, are together of bulk at most 1048576: NARROWER than '..Said'. Prove '..Said' where nothing that the law and all that it calls make is longer than what came in: it says more and counts as full. Else prove '..UptoSaid'. A law counts once. -/
mutual
def uptoBulk {H : Type} : DataW H → Nat
  | .lit (.string bytes) => bytes.length + 1
  | .lit _ => 1
  | .nil => 1
  | .ptr d => uptoBulk d + 1
  | .slice elems spare => uptoBulkAll elems + uptoBulkAll spare + 1
  | .agg parts => uptoBulkAll parts + 1
  | .iface _ d => uptoBulk d + 1
  | .map entries => uptoBulkEntries entries + 1
  | .held _ => 1
def uptoBulkAll {H : Type} : List (DataW H) → Nat
  | [] => 0
  | d :: r => uptoBulk d + uptoBulkAll r
def uptoBulkEntries {H : Type} : List (Lit × DataW H) → Nat
  | [] => 0
  | x :: r => uptoBulkEntry x + uptoBulkEntries r
def uptoBulkEntry {H : Type} : Lit × DataW H → Nat
  | (.string bytes, d) => bytes.length + uptoBulk d + 1
  | (_, d) => uptoBulk d + 1
 end
def uptoSmall : (H : Type) → List (DataW H) → Bool := fun _ ds => decide (uptoBulkAll ds ≤ 1048576)
def OpenSpec.upto (s : _root_.Go.ChangeSpec) : _root_.Go.OpenSpec := { _root_.Go.OpenSpec.ofChange s with cond := some uptoSmall }

/-- 'laws.FnExactPieceAt', WHERE WHAT IT READS IS OF BULK AT MOST 1048576: true; the input reads as it did. -/
def fnExactPieceAtUptoRow : OpenClaim := { program := "ytbplbbialcbceaadoor", sum := "cbd232f7b8b167495574a9d8d4cbf00b15296275d261bb185f412fee7e7e2752", func := "loop.example/g01199/laws.FnExactPieceAt", spec := "fnExactPieceAt", inPlace := ["internal/bytealg.CountString", "internal/bytealg.IndexByteString", "internal/bytealg.IndexString", "internal/abi.NoEscape", "internal/bytealg.MakeNoZero"], unfollowed := true, recurses := true, named := ["unicode/utf8.first", "unicode/utf8.acceptRanges", "internal/bytealg.MaxLen"], apart := false, laid := [("unicode/utf8.acceptRanges", laid_unicode_utf8_acceptRanges), ("unicode/utf8.first", laid_unicode_utf8_first)], narrowed := true }
def FnExactPieceAtUptoSaid : Prop := fnExactPieceAtUptoRow.holds Tryd.pinned (OpenSpec.upto fnExactPieceAtSpec)

/-- 'laws.FnExactTurnForm', WHERE WHAT IT READS IS OF BULK AT MOST 1048576: true; the input reads as it did. -/
def fnExactTurnFormUptoRow : OpenClaim := { program := "ytbplbbialcbceaadoor", sum := "cbd232f7b8b167495574a9d8d4cbf00b15296275d261bb185f412fee7e7e2752", func := "loop.example/g01199/laws.FnExactTurnForm", spec := "fnExactTurnForm", inPlace := ["internal/bytealg.CountString", "internal/bytealg.IndexByteString", "internal/bytealg.IndexString", "internal/abi.NoEscape", "internal/bytealg.MakeNoZero"], unfollowed := true, recurses := true, named := ["unicode/utf8.first", "unicode/utf8.acceptRanges", "internal/bytealg.MaxLen"], apart := false, laid := [("unicode/utf8.acceptRanges", laid_unicode_utf8_acceptRanges), ("unicode/utf8.first", laid_unicode_utf8_first)], narrowed := true }
def FnExactTurnFormUptoSaid : Prop := fnExactTurnFormUptoRow.holds Tryd.pinned (OpenSpec.upto fnExactTurnFormSpec)

/-- 'laws.FnExactFreeWays', WHERE WHAT IT READS IS OF BULK AT MOST 1048576: true; the input reads as it did. -/
def fnExactFreeWaysUptoRow : OpenClaim := { program := "ytbplbbialcbceaadoor", sum := "cbd232f7b8b167495574a9d8d4cbf00b15296275d261bb185f412fee7e7e2752", func := "loop.example/g01199/laws.FnExactFreeWays", spec := "fnExactFreeWays", inPlace := ["internal/bytealg.CountString", "internal/bytealg.IndexByteString", "internal/bytealg.IndexString", "internal/abi.NoEscape", "internal/bytealg.MakeNoZero"], unfollowed := true, recurses := true, named := ["unicode/utf8.first", "unicode/utf8.acceptRanges", "internal/bytealg.MaxLen"], apart := false, laid := [("unicode/utf8.acceptRanges", laid_unicode_utf8_acceptRanges), ("unicode/utf8.first", laid_unicode_utf8_first)], narrowed := true }
def FnExactFreeWaysUptoSaid : Prop := fnExactFreeWaysUptoRow.holds Tryd.pinned (OpenSpec.upto fnExactFreeWaysSpec)

/-- 'laws.FnExactBlockedPieces', WHERE WHAT IT READS IS OF BULK AT MOST 1048576: true; the input reads as it did. -/
def fnExactBlockedPiecesUptoRow : OpenClaim := { program := "ytbplbbialcbceaadoor", sum := "cbd232f7b8b167495574a9d8d4cbf00b15296275d261bb185f412fee7e7e2752", func := "loop.example/g01199/laws.FnExactBlockedPieces", spec := "fnExactBlockedPieces", inPlace := ["internal/bytealg.CountString", "internal/bytealg.IndexByteString", "internal/bytealg.IndexString", "internal/abi.NoEscape", "internal/bytealg.MakeNoZero"], unfollowed := true, recurses := true, named := ["unicode/utf8.first", "unicode/utf8.acceptRanges", "internal/bytealg.MaxLen"], apart := false, laid := [("unicode/utf8.acceptRanges", laid_unicode_utf8_acceptRanges), ("unicode/utf8.first", laid_unicode_utf8_first)], narrowed := true }
def FnExactBlockedPiecesUptoSaid : Prop := fnExactBlockedPiecesUptoRow.holds Tryd.pinned (OpenSpec.upto fnExactBlockedPiecesSpec)

/-- 'laws.FnExactCanAdd', WHERE WHAT IT READS IS OF BULK AT MOST 1048576: true; the input reads as it did. -/
def fnExactCanAddUptoRow : OpenClaim := { program := "ytbplbbialcbceaadoor", sum := "cbd232f7b8b167495574a9d8d4cbf00b15296275d261bb185f412fee7e7e2752", func := "loop.example/g01199/laws.FnExactCanAdd", spec := "fnExactCanAdd", inPlace := ["internal/bytealg.CountString", "internal/bytealg.IndexByteString", "internal/bytealg.IndexString", "internal/abi.NoEscape", "internal/bytealg.MakeNoZero"], unfollowed := true, recurses := true, named := ["unicode/utf8.first", "unicode/utf8.acceptRanges", "internal/bytealg.MaxLen"], apart := false, laid := [("unicode/utf8.acceptRanges", laid_unicode_utf8_acceptRanges), ("unicode/utf8.first", laid_unicode_utf8_first)], narrowed := true }
def FnExactCanAddUptoSaid : Prop := fnExactCanAddUptoRow.holds Tryd.pinned (OpenSpec.upto fnExactCanAddSpec)

/-- 'laws.FnExactAddCell', WHERE WHAT IT READS IS OF BULK AT MOST 1048576: true; the input reads as it did. -/
def fnExactAddCellUptoRow : OpenClaim := { program := "ytbplbbialcbceaadoor", sum := "cbd232f7b8b167495574a9d8d4cbf00b15296275d261bb185f412fee7e7e2752", func := "loop.example/g01199/laws.FnExactAddCell", spec := "fnExactAddCell", inPlace := ["internal/bytealg.CountString", "internal/bytealg.IndexByteString", "internal/bytealg.IndexString", "internal/abi.NoEscape", "internal/bytealg.MakeNoZero"], unfollowed := true, recurses := true, named := ["unicode/utf8.first", "unicode/utf8.acceptRanges", "internal/bytealg.MaxLen"], apart := false, laid := [("unicode/utf8.acceptRanges", laid_unicode_utf8_acceptRanges), ("unicode/utf8.first", laid_unicode_utf8_first)], narrowed := true }
def FnExactAddCellUptoSaid : Prop := fnExactAddCellUptoRow.holds Tryd.pinned (OpenSpec.upto fnExactAddCellSpec)

/-- 'laws.FnExactTakeCell', WHERE WHAT IT READS IS OF BULK AT MOST 1048576: true; the input reads as it did. -/
def fnExactTakeCellUptoRow : OpenClaim := { program := "ytbplbbialcbceaadoor", sum := "cbd232f7b8b167495574a9d8d4cbf00b15296275d261bb185f412fee7e7e2752", func := "loop.example/g01199/laws.FnExactTakeCell", spec := "fnExactTakeCell", inPlace := ["internal/bytealg.CountString", "internal/bytealg.IndexByteString", "internal/bytealg.IndexString", "internal/abi.NoEscape", "internal/bytealg.MakeNoZero"], unfollowed := true, recurses := true, named := ["unicode/utf8.first", "unicode/utf8.acceptRanges", "internal/bytealg.MaxLen"], apart := false, laid := [("unicode/utf8.acceptRanges", laid_unicode_utf8_acceptRanges), ("unicode/utf8.first", laid_unicode_utf8_first)], narrowed := true }
def FnExactTakeCellUptoSaid : Prop := fnExactTakeCellUptoRow.holds Tryd.pinned (OpenSpec.upto fnExactTakeCellSpec)

end Rows
end Go.Proofs.YtbplbbialcbceaaDoor
