/-
  NARROWER THAN 'FOR EVERY INPUT', by the rows' own cells (each row's printed sentence says how): FnExactStretchesOf: laid · FnExactCountStill: laid · FnExactCountStillWith: laid · FnExactCountTilted: laid · FnExactStillWays: laid.
  DERIVED. THE GIVEN ROWS OF THIS SEAT. 5 by the template 'for every input the law returns true; each argument reads behind the call as it read before'; 0 by the template 'total and deterministic' (their statements: YtcpeldgnabfdmaaDoorTotals.lean).
  GIVEN WITH THE SEED: the statements are not yours to turn. If you find one false, say at which input.
  Laid BY PROGRAM, IN A SANDBOX (cutbox-rows.mjs): the forced cells as the released guide's own fill.sh prints them over the translation bd3fbcbf05e2b6c0… (all of the seat's roots in one cut). By AI agents, Wed Nov 11 2026. No macro, syntax, notation, axiom, sorry.
-/
import Derived.Test.YtcpeldgnabfdmaaDoorChecked
import GoSem.PinnedTables
import GoSem.Claim
import GoSem.ClaimJoined
import GoSem.ClaimMapViews
import Derived.JoinedTies
import Derived.KernelRfl
namespace Go.Proofs.YtcpeldgnabfdmaaDoor
/- THE CELL 'sum', in the pinned program and in every row, IS THE sha256 OF THE DUMP (.gsa) THAT YtcpeldgnabfdmaaDoorProg.lean LOADS. Nothing in Lean hashes anything: it is a label: what it is worth is what the hold of that sum in a sandbox is worth. -/
noncomputable def Tryd.pinned : Pinned := { name := "ytcpeldgnabfdmaadoor", sum := "bd3fbcbf05e2b6c0fac3a6e92567ef41a331ec93fdbc34c32820c035edd411a3", checked := Tryd.checked }
namespace Rows
def none {H : Type} : Left H := { results := [], args := [] }

/- WHAT THE LISTED PACKAGE-LEVEL VARIABLES READ AS WHEN THE CALL BEGINS. Each datum BY PROGRAM (the guide's laid-datum.mjs) off the statement by which the dump's own 'gosem.cut.vars' lays the variable. In a bare row this is a premise. The card (YtcpeldgnabfdmaaDoorCards.lean) ties it to the program's text. -/
def laid_unicode_utf8_acceptRanges {H : Type} : DataW H := .agg [.agg [.lit (.int .u8 128), .lit (.int .u8 191)], .agg [.lit (.int .u8 160), .lit (.int .u8 191)], .agg [.lit (.int .u8 128), .lit (.int .u8 159)], .agg [.lit (.int .u8 144), .lit (.int .u8 191)], .agg [.lit (.int .u8 128), .lit (.int .u8 143)], .agg [.lit (.int .u8 0), .lit (.int .u8 0)], .agg [.lit (.int .u8 0), .lit (.int .u8 0)], .agg [.lit (.int .u8 0), .lit (.int .u8 0)], .agg [.lit (.int .u8 0), .lit (.int .u8 0)], .agg [.lit (.int .u8 0), .lit (.int .u8 0)], .agg [.lit (.int .u8 0), .lit (.int .u8 0)], .agg [.lit (.int .u8 0), .lit (.int .u8 0)], .agg [.lit (.int .u8 0), .lit (.int .u8 0)], .agg [.lit (.int .u8 0), .lit (.int .u8 0)], .agg [.lit (.int .u8 0), .lit (.int .u8 0)], .agg [.lit (.int .u8 0), .lit (.int .u8 0)]]
/-- One of Go's own tables, pinned by name: the form's constant. -/
def laid_unicode_utf8_first : DataW Unit := Go.Pinned.utf8First

/-- 'laws.FnExactStretchesOf': WHATEVER THE INPUT: true; the input reads as it did. -/
def fnExactStretchesOfSpec : ChangeSpec := { name := "fnExactStretchesOf", fn := fun _ => fun
  | [d1, d2] => { results := [.lit (.bool true)], args := [d1, d2] }
  | _ => none }
def fnExactStretchesOfRow : OpenClaim := { program := "ytcpeldgnabfdmaadoor", sum := "bd3fbcbf05e2b6c0fac3a6e92567ef41a331ec93fdbc34c32820c035edd411a3", func := "loop.example/g01199/laws.FnExactStretchesOf", spec := "fnExactStretchesOf", inPlace := ["internal/bytealg.CountString", "internal/bytealg.IndexByteString", "internal/bytealg.IndexString", "internal/abi.NoEscape", "internal/bytealg.MakeNoZero"], unfollowed := true, recurses := true, named := ["unicode/utf8.first", "unicode/utf8.acceptRanges", "internal/bytealg.MaxLen"], apart := false, laid := [("unicode/utf8.acceptRanges", laid_unicode_utf8_acceptRanges), ("unicode/utf8.first", laid_unicode_utf8_first)] }
def FnExactStretchesOfSaid : Prop := fnExactStretchesOfRow.holds Tryd.pinned (OpenSpec.ofChange fnExactStretchesOfSpec)

/-- ITS FALSE NEIGHBOUR: 'it returns false'. Refute it at one input. -/
def fnExactStretchesOfWrong : ChangeSpec := { name := "fnExactStretchesOf", fn := fun _ => fun
  | [d1, d2] => { results := [.lit (.bool false)], args := [d1, d2] }
  | _ => none }
def FnExactStretchesOfWrongFalsely : Prop := fnExactStretchesOfRow.holds Tryd.pinned (OpenSpec.ofChange fnExactStretchesOfWrong)

/-- 'laws.FnExactCountStill': WHATEVER THE INPUT: true; the input reads as it did. -/
def fnExactCountStillSpec : ChangeSpec := { name := "fnExactCountStill", fn := fun _ => fun
  | [d1, d2] => { results := [.lit (.bool true)], args := [d1, d2] }
  | _ => none }
def fnExactCountStillRow : OpenClaim := { program := "ytcpeldgnabfdmaadoor", sum := "bd3fbcbf05e2b6c0fac3a6e92567ef41a331ec93fdbc34c32820c035edd411a3", func := "loop.example/g01199/laws.FnExactCountStill", spec := "fnExactCountStill", inPlace := ["internal/bytealg.CountString", "internal/bytealg.IndexByteString", "internal/bytealg.IndexString", "internal/abi.NoEscape", "internal/bytealg.MakeNoZero"], unfollowed := true, recurses := true, named := ["unicode/utf8.first", "unicode/utf8.acceptRanges", "internal/bytealg.MaxLen"], apart := false, laid := [("unicode/utf8.acceptRanges", laid_unicode_utf8_acceptRanges), ("unicode/utf8.first", laid_unicode_utf8_first)] }
def FnExactCountStillSaid : Prop := fnExactCountStillRow.holds Tryd.pinned (OpenSpec.ofChange fnExactCountStillSpec)

/-- ITS FALSE NEIGHBOUR: 'it returns false'. Refute it at one input. -/
def fnExactCountStillWrong : ChangeSpec := { name := "fnExactCountStill", fn := fun _ => fun
  | [d1, d2] => { results := [.lit (.bool false)], args := [d1, d2] }
  | _ => none }
def FnExactCountStillWrongFalsely : Prop := fnExactCountStillRow.holds Tryd.pinned (OpenSpec.ofChange fnExactCountStillWrong)

/-- 'laws.FnExactCountStillWith': WHATEVER THE INPUT: true; the input reads as it did. -/
def fnExactCountStillWithSpec : ChangeSpec := { name := "fnExactCountStillWith", fn := fun _ => fun
  | [d1, d2, d3] => { results := [.lit (.bool true)], args := [d1, d2, d3] }
  | _ => none }
def fnExactCountStillWithRow : OpenClaim := { program := "ytcpeldgnabfdmaadoor", sum := "bd3fbcbf05e2b6c0fac3a6e92567ef41a331ec93fdbc34c32820c035edd411a3", func := "loop.example/g01199/laws.FnExactCountStillWith", spec := "fnExactCountStillWith", inPlace := ["internal/bytealg.CountString", "internal/bytealg.IndexByteString", "internal/bytealg.IndexString", "internal/abi.NoEscape", "internal/bytealg.MakeNoZero"], unfollowed := true, recurses := true, named := ["unicode/utf8.first", "unicode/utf8.acceptRanges", "internal/bytealg.MaxLen"], apart := false, laid := [("unicode/utf8.acceptRanges", laid_unicode_utf8_acceptRanges), ("unicode/utf8.first", laid_unicode_utf8_first)] }
def FnExactCountStillWithSaid : Prop := fnExactCountStillWithRow.holds Tryd.pinned (OpenSpec.ofChange fnExactCountStillWithSpec)

/-- ITS FALSE NEIGHBOUR: 'it returns false'. Refute it at one input. -/
def fnExactCountStillWithWrong : ChangeSpec := { name := "fnExactCountStillWith", fn := fun _ => fun
  | [d1, d2, d3] => { results := [.lit (.bool false)], args := [d1, d2, d3] }
  | _ => none }
def FnExactCountStillWithWrongFalsely : Prop := fnExactCountStillWithRow.holds Tryd.pinned (OpenSpec.ofChange fnExactCountStillWithWrong)

/-- 'laws.FnExactCountTilted': WHATEVER THE INPUT: true; the input reads as it did. -/
def fnExactCountTiltedSpec : ChangeSpec := { name := "fnExactCountTilted", fn := fun _ => fun
  | [d1, d2, d3] => { results := [.lit (.bool true)], args := [d1, d2, d3] }
  | _ => none }
def fnExactCountTiltedRow : OpenClaim := { program := "ytcpeldgnabfdmaadoor", sum := "bd3fbcbf05e2b6c0fac3a6e92567ef41a331ec93fdbc34c32820c035edd411a3", func := "loop.example/g01199/laws.FnExactCountTilted", spec := "fnExactCountTilted", inPlace := ["internal/bytealg.CountString", "internal/bytealg.IndexByteString", "internal/bytealg.IndexString", "internal/abi.NoEscape", "internal/bytealg.MakeNoZero"], unfollowed := true, recurses := true, named := ["unicode/utf8.first", "unicode/utf8.acceptRanges", "internal/bytealg.MaxLen"], apart := false, laid := [("unicode/utf8.acceptRanges", laid_unicode_utf8_acceptRanges), ("unicode/utf8.first", laid_unicode_utf8_first)] }
def FnExactCountTiltedSaid : Prop := fnExactCountTiltedRow.holds Tryd.pinned (OpenSpec.ofChange fnExactCountTiltedSpec)

/-- ITS FALSE NEIGHBOUR: 'it returns false'. Refute it at one input. -/
def fnExactCountTiltedWrong : ChangeSpec := { name := "fnExactCountTilted", fn := fun _ => fun
  | [d1, d2, d3] => { results := [.lit (.bool false)], args := [d1, d2, d3] }
  | _ => none }
def FnExactCountTiltedWrongFalsely : Prop := fnExactCountTiltedRow.holds Tryd.pinned (OpenSpec.ofChange fnExactCountTiltedWrong)

/-- 'laws.FnExactStillWays': WHATEVER THE INPUT: true; the input reads as it did. -/
def fnExactStillWaysSpec : ChangeSpec := { name := "fnExactStillWays", fn := fun _ => fun
  | [d] => { results := [.lit (.bool true)], args := [d] }
  | _ => none }
def fnExactStillWaysRow : OpenClaim := { program := "ytcpeldgnabfdmaadoor", sum := "bd3fbcbf05e2b6c0fac3a6e92567ef41a331ec93fdbc34c32820c035edd411a3", func := "loop.example/g01199/laws.FnExactStillWays", spec := "fnExactStillWays", inPlace := ["internal/bytealg.CountString", "internal/bytealg.IndexByteString", "internal/bytealg.IndexString", "internal/abi.NoEscape", "internal/bytealg.MakeNoZero"], unfollowed := true, recurses := true, named := ["unicode/utf8.first", "unicode/utf8.acceptRanges", "internal/bytealg.MaxLen"], apart := false, laid := [("unicode/utf8.acceptRanges", laid_unicode_utf8_acceptRanges), ("unicode/utf8.first", laid_unicode_utf8_first)] }
def FnExactStillWaysSaid : Prop := fnExactStillWaysRow.holds Tryd.pinned (OpenSpec.ofChange fnExactStillWaysSpec)

/-- ITS FALSE NEIGHBOUR: 'it returns false'. Refute it at one input. -/
def fnExactStillWaysWrong : ChangeSpec := { name := "fnExactStillWays", fn := fun _ => fun
  | [d] => { results := [.lit (.bool false)], args := [d] }
  | _ => none }
def FnExactStillWaysWrongFalsely : Prop := fnExactStillWaysRow.holds Tryd.pinned (OpenSpec.ofChange fnExactStillWaysWrong)

/- THE SECOND FORM. 'bulk': how many values and letters a reading holds, each counted each time it is reached (what is shared counts as often as it is met; a slice's spare places count too). A statement '..UptoSaid' is the law's where the arguments, and the package variables that the reading takes, are together of bulk at most 1048576: NARROWER than '..Said'. Prove '..Said' where nothing that the law and all that it calls make is longer than what came in: it says more and counts as full. Else prove '..UptoSaid'. A law counts once. -/
mutual
def uptoBulk {H : Type} : DataW H → Nat
  | .lit (.string bytes) => bytes.length + 1
  | .lit _ => 1
  | .nil => 1
  | .ptr d => uptoBulk d + 1
  | .slice elems spare => uptoBulkAll elems + uptoBulkAll spare + 1
  | .agg parts => uptoBulkAll parts + 1
  | .iface _ d => uptoBulk d + 1
  | .map entries => uptoBulkEntries entries + 1
  | .held _ => 1
def uptoBulkAll {H : Type} : List (DataW H) → Nat
  | [] => 0
  | d :: r => uptoBulk d + uptoBulkAll r
def uptoBulkEntries {H : Type} : List (Lit × DataW H) → Nat
  | [] => 0
  | x :: r => uptoBulkEntry x + uptoBulkEntries r
def uptoBulkEntry {H : Type} : Lit × DataW H → Nat
  | (.string bytes, d) => bytes.length + uptoBulk d + 1
  | (_, d) => uptoBulk d + 1
 end
def uptoSmall : (H : Type) → List (DataW H) → Bool := fun _ ds => decide (uptoBulkAll ds ≤ 1048576)
def OpenSpec.upto (s : _root_.Go.ChangeSpec) : _root_.Go.OpenSpec := { _root_.Go.OpenSpec.ofChange s with cond := some uptoSmall }

/-- 'laws.FnExactStretchesOf', WHERE WHAT IT READS IS OF BULK AT MOST 1048576: true; the input reads as it did. -/
def fnExactStretchesOfUptoRow : OpenClaim := { program := "ytcpeldgnabfdmaadoor", sum := "bd3fbcbf05e2b6c0fac3a6e92567ef41a331ec93fdbc34c32820c035edd411a3", func := "loop.example/g01199/laws.FnExactStretchesOf", spec := "fnExactStretchesOf", inPlace := ["internal/bytealg.CountString", "internal/bytealg.IndexByteString", "internal/bytealg.IndexString", "internal/abi.NoEscape", "internal/bytealg.MakeNoZero"], unfollowed := true, recurses := true, named := ["unicode/utf8.first", "unicode/utf8.acceptRanges", "internal/bytealg.MaxLen"], apart := false, laid := [("unicode/utf8.acceptRanges", laid_unicode_utf8_acceptRanges), ("unicode/utf8.first", laid_unicode_utf8_first)], narrowed := true }
def FnExactStretchesOfUptoSaid : Prop := fnExactStretchesOfUptoRow.holds Tryd.pinned (OpenSpec.upto fnExactStretchesOfSpec)

/-- 'laws.FnExactCountStill', WHERE WHAT IT READS IS OF BULK AT MOST 1048576: true; the input reads as it did. -/
def fnExactCountStillUptoRow : OpenClaim := { program := "ytcpeldgnabfdmaadoor", sum := "bd3fbcbf05e2b6c0fac3a6e92567ef41a331ec93fdbc34c32820c035edd411a3", func := "loop.example/g01199/laws.FnExactCountStill", spec := "fnExactCountStill", inPlace := ["internal/bytealg.CountString", "internal/bytealg.IndexByteString", "internal/bytealg.IndexString", "internal/abi.NoEscape", "internal/bytealg.MakeNoZero"], unfollowed := true, recurses := true, named := ["unicode/utf8.first", "unicode/utf8.acceptRanges", "internal/bytealg.MaxLen"], apart := false, laid := [("unicode/utf8.acceptRanges", laid_unicode_utf8_acceptRanges), ("unicode/utf8.first", laid_unicode_utf8_first)], narrowed := true }
def FnExactCountStillUptoSaid : Prop := fnExactCountStillUptoRow.holds Tryd.pinned (OpenSpec.upto fnExactCountStillSpec)

/-- 'laws.FnExactCountStillWith', WHERE WHAT IT READS IS OF BULK AT MOST 1048576: true; the input reads as it did. -/
def fnExactCountStillWithUptoRow : OpenClaim := { program := "ytcpeldgnabfdmaadoor", sum := "bd3fbcbf05e2b6c0fac3a6e92567ef41a331ec93fdbc34c32820c035edd411a3", func := "loop.example/g01199/laws.FnExactCountStillWith", spec := "fnExactCountStillWith", inPlace := ["internal/bytealg.CountString", "internal/bytealg.IndexByteString", "internal/bytealg.IndexString", "internal/abi.NoEscape", "internal/bytealg.MakeNoZero"], unfollowed := true, recurses := true, named := ["unicode/utf8.first", "unicode/utf8.acceptRanges", "internal/bytealg.MaxLen"], apart := false, laid := [("unicode/utf8.acceptRanges", laid_unicode_utf8_acceptRanges), ("unicode/utf8.first", laid_unicode_utf8_first)], narrowed := true }
def FnExactCountStillWithUptoSaid : Prop := fnExactCountStillWithUptoRow.holds Tryd.pinned (OpenSpec.upto fnExactCountStillWithSpec)

/-- 'laws.FnExactCountTilted', WHERE WHAT IT READS IS OF BULK AT MOST 1048576: true; the input reads as it did. -/
def fnExactCountTiltedUptoRow : OpenClaim := { program := "ytcpeldgnabfdmaadoor", sum := "bd3fbcbf05e2b6c0fac3a6e92567ef41a331ec93fdbc34c32820c035edd411a3", func := "loop.example/g01199/laws.FnExactCountTilted", spec := "fnExactCountTilted", inPlace := ["internal/bytealg.CountString", "internal/bytealg.IndexByteString", "internal/bytealg.IndexString", "internal/abi.NoEscape", "internal/bytealg.MakeNoZero"], unfollowed := true, recurses := true, named := ["unicode/utf8.first", "unicode/utf8.acceptRanges", "internal/bytealg.MaxLen"], apart := false, laid := [("unicode/utf8.acceptRanges", laid_unicode_utf8_acceptRanges), ("unicode/utf8.first", laid_unicode_utf8_first)], narrowed := true }
def FnExactCountTiltedUptoSaid : Prop := fnExactCountTiltedUptoRow.holds Tryd.pinned (OpenSpec.upto fnExactCountTiltedSpec)

/-- 'laws.FnExactStillWays', WHERE WHAT IT READS IS OF BULK AT MOST 1048576: true; the input reads as it did. -/
def fnExactStillWaysUptoRow : OpenClaim := { program := "ytcpeldgnabfdmaadoor", sum := "bd3fbcbf05e2b6c0fac3a6e92567ef41a331ec93fdbc34c32820c035edd411a3", func := "loop.example/g01199/laws.FnExactStillWays", spec := "fnExactStillWays", inPlace := ["internal/bytealg.CountString", "internal/bytealg.IndexByteString", "internal/bytealg.IndexString", "internal/abi.NoEscape", "internal/bytealg.MakeNoZero"], unfollowed := true, recurses := true, named := ["unicode/utf8.first", "unicode/utf8.acceptRanges", "internal/bytealg.MaxLen"], apart := false, laid := [("unicode/utf8.acceptRanges", laid_unicode_utf8_acceptRanges), ("unicode/utf8.first", laid_unicode_utf8_first)], narrowed := true }
def FnExactStillWaysUptoSaid : Prop := fnExactStillWaysUptoRow.holds Tryd.pinned (OpenSpec.upto fnExactStillWaysSpec)

end Rows
end Go.Proofs.YtcpeldgnabfdmaaDoor
