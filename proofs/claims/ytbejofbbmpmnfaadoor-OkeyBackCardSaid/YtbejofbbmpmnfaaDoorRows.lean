/-
  NARROWER THAN 'FOR EVERY INPUT', by the rows' own cells (each row's printed sentence says how): OkeyNext: laid · OkeyLong: laid · OkeyBack: laid · OkeyOrders: laid.
  DERIVED. THE GIVEN ROWS OF THIS SEAT. 4 by the template 'for every input the law returns true; each argument reads behind the call as it read before'; 0 by the template 'total and deterministic' (their statements: YtbejofbbmpmnfaaDoorTotals.lean).
  GIVEN WITH THE SEED: the statements are not yours to turn. If you find one false, say at which input.
  Laid BY PROGRAM, IN A SANDBOX (cutbox-rows.mjs): the forced cells as the released guide's own fill.sh prints them over the translation b49eb38f2cc20917… (all of the seat's roots in one cut). By AI agents, Wed Nov 11 2026. No macro, syntax, notation, axiom, sorry.
-/
import Derived.Test.YtbejofbbmpmnfaaDoorChecked
import GoSem.PinnedTables
import GoSem.Claim
import GoSem.ClaimJoined
import GoSem.ClaimMapViews
import Derived.JoinedTies
import Derived.KernelRfl
namespace Go.Proofs.YtbejofbbmpmnfaaDoor
/- THE CELL 'sum', in the pinned program and in every row, IS THE sha256 OF THE DUMP (.gsa) THAT YtbejofbbmpmnfaaDoorProg.lean LOADS. Nothing in Lean hashes anything: it is a label: what it is worth is what the hold of that sum in a sandbox is worth. -/
noncomputable def Tryd.pinned : Pinned := { name := "ytbejofbbmpmnfaadoor", sum := "b49eb38f2cc209175e89356bbf68b55f1e176b7f62c17560bf569b4008bce5b9", checked := Tryd.checked }
namespace Rows
def none {H : Type} : Left H := { results := [], args := [] }

/- WHAT THE LISTED PACKAGE-LEVEL VARIABLES READ AS WHEN THE CALL BEGINS. Each datum BY PROGRAM (the guide's laid-datum.mjs) off the statement by which the dump's own 'gosem.cut.vars' lays the variable. In a bare row this is a premise. The card (YtbejofbbmpmnfaaDoorCards.lean) ties it to the program's text. -/
def laid_unicode_utf8_acceptRanges {H : Type} : DataW H := .agg [.agg [.lit (.int .u8 128), .lit (.int .u8 191)], .agg [.lit (.int .u8 160), .lit (.int .u8 191)], .agg [.lit (.int .u8 128), .lit (.int .u8 159)], .agg [.lit (.int .u8 144), .lit (.int .u8 191)], .agg [.lit (.int .u8 128), .lit (.int .u8 143)], .agg [.lit (.int .u8 0), .lit (.int .u8 0)], .agg [.lit (.int .u8 0), .lit (.int .u8 0)], .agg [.lit (.int .u8 0), .lit (.int .u8 0)], .agg [.lit (.int .u8 0), .lit (.int .u8 0)], .agg [.lit (.int .u8 0), .lit (.int .u8 0)], .agg [.lit (.int .u8 0), .lit (.int .u8 0)], .agg [.lit (.int .u8 0), .lit (.int .u8 0)], .agg [.lit (.int .u8 0), .lit (.int .u8 0)], .agg [.lit (.int .u8 0), .lit (.int .u8 0)], .agg [.lit (.int .u8 0), .lit (.int .u8 0)], .agg [.lit (.int .u8 0), .lit (.int .u8 0)]]
/-- One of Go's own tables, pinned by name: the form's constant. -/
def laid_unicode_utf8_first : DataW Unit := Go.Pinned.utf8First

/-- 'cornucopialaw2.OkeyNext': WHATEVER THE INPUT: true; the input reads as it did. -/
def okeyNextSpec : ChangeSpec := { name := "okeyNext", fn := fun _ => fun
  | [d1, d2, d3] => { results := [.lit (.bool true)], args := [d1, d2, d3] }
  | _ => none }
def okeyNextRow : OpenClaim := { program := "ytbejofbbmpmnfaadoor", sum := "b49eb38f2cc209175e89356bbf68b55f1e176b7f62c17560bf569b4008bce5b9", func := "cornucopia/cornucopialaw2.OkeyNext", spec := "okeyNext", inPlace := ["internal/bytealg.CountString", "internal/bytealg.IndexByteString", "internal/bytealg.IndexString", "internal/abi.NoEscape", "internal/bytealg.MakeNoZero"], named := ["internal/bytealg.MaxLen", "unicode/utf8.first", "unicode/utf8.acceptRanges"], apart := false, laid := [("unicode/utf8.acceptRanges", laid_unicode_utf8_acceptRanges), ("unicode/utf8.first", laid_unicode_utf8_first)] }
def OkeyNextSaid : Prop := okeyNextRow.holds Tryd.pinned (OpenSpec.ofChange okeyNextSpec)

/-- ITS FALSE NEIGHBOUR: 'it returns false'. Refute it at one input. -/
def okeyNextWrong : ChangeSpec := { name := "okeyNext", fn := fun _ => fun
  | [d1, d2, d3] => { results := [.lit (.bool false)], args := [d1, d2, d3] }
  | _ => none }
def OkeyNextWrongFalsely : Prop := okeyNextRow.holds Tryd.pinned (OpenSpec.ofChange okeyNextWrong)

/-- 'cornucopialaw2.OkeyLong': WHATEVER THE INPUT: true; the input reads as it did. -/
def okeyLongSpec : ChangeSpec := { name := "okeyLong", fn := fun _ => fun
  | [d] => { results := [.lit (.bool true)], args := [d] }
  | _ => none }
def okeyLongRow : OpenClaim := { program := "ytbejofbbmpmnfaadoor", sum := "b49eb38f2cc209175e89356bbf68b55f1e176b7f62c17560bf569b4008bce5b9", func := "cornucopia/cornucopialaw2.OkeyLong", spec := "okeyLong", inPlace := ["internal/bytealg.CountString", "internal/bytealg.IndexByteString", "internal/bytealg.IndexString", "internal/abi.NoEscape", "internal/bytealg.MakeNoZero"], named := ["internal/bytealg.MaxLen", "unicode/utf8.first", "unicode/utf8.acceptRanges"], apart := false, laid := [("unicode/utf8.acceptRanges", laid_unicode_utf8_acceptRanges), ("unicode/utf8.first", laid_unicode_utf8_first)] }
def OkeyLongSaid : Prop := okeyLongRow.holds Tryd.pinned (OpenSpec.ofChange okeyLongSpec)

/-- ITS FALSE NEIGHBOUR: 'it returns false'. Refute it at one input. -/
def okeyLongWrong : ChangeSpec := { name := "okeyLong", fn := fun _ => fun
  | [d] => { results := [.lit (.bool false)], args := [d] }
  | _ => none }
def OkeyLongWrongFalsely : Prop := okeyLongRow.holds Tryd.pinned (OpenSpec.ofChange okeyLongWrong)

/-- 'cornucopialaw2.OkeyBack': WHATEVER THE INPUT: true; the input reads as it did. -/
def okeyBackSpec : ChangeSpec := { name := "okeyBack", fn := fun _ => fun
  | [d1, d2] => { results := [.lit (.bool true)], args := [d1, d2] }
  | _ => none }
def okeyBackRow : OpenClaim := { program := "ytbejofbbmpmnfaadoor", sum := "b49eb38f2cc209175e89356bbf68b55f1e176b7f62c17560bf569b4008bce5b9", func := "cornucopia/cornucopialaw2.OkeyBack", spec := "okeyBack", inPlace := ["internal/bytealg.CountString", "internal/bytealg.IndexByteString", "internal/bytealg.IndexString", "internal/abi.NoEscape", "internal/bytealg.MakeNoZero"], named := ["internal/bytealg.MaxLen", "unicode/utf8.first", "unicode/utf8.acceptRanges"], apart := false, laid := [("unicode/utf8.acceptRanges", laid_unicode_utf8_acceptRanges), ("unicode/utf8.first", laid_unicode_utf8_first)] }
def OkeyBackSaid : Prop := okeyBackRow.holds Tryd.pinned (OpenSpec.ofChange okeyBackSpec)

/-- ITS FALSE NEIGHBOUR: 'it returns false'. Refute it at one input. -/
def okeyBackWrong : ChangeSpec := { name := "okeyBack", fn := fun _ => fun
  | [d1, d2] => { results := [.lit (.bool false)], args := [d1, d2] }
  | _ => none }
def OkeyBackWrongFalsely : Prop := okeyBackRow.holds Tryd.pinned (OpenSpec.ofChange okeyBackWrong)

/-- 'cornucopialaw2.OkeyOrders': WHATEVER THE INPUT: true; the input reads as it did. -/
def okeyOrdersSpec : ChangeSpec := { name := "okeyOrders", fn := fun _ => fun
  | [d1, d2, d3, d4, d5, d6] => { results := [.lit (.bool true)], args := [d1, d2, d3, d4, d5, d6] }
  | _ => none }
def okeyOrdersRow : OpenClaim := { program := "ytbejofbbmpmnfaadoor", sum := "b49eb38f2cc209175e89356bbf68b55f1e176b7f62c17560bf569b4008bce5b9", func := "cornucopia/cornucopialaw2.OkeyOrders", spec := "okeyOrders", inPlace := ["internal/bytealg.CountString", "internal/bytealg.IndexByteString", "internal/bytealg.IndexString", "internal/abi.NoEscape", "internal/bytealg.MakeNoZero"], named := ["internal/bytealg.MaxLen", "unicode/utf8.first", "unicode/utf8.acceptRanges"], apart := false, laid := [("unicode/utf8.acceptRanges", laid_unicode_utf8_acceptRanges), ("unicode/utf8.first", laid_unicode_utf8_first)] }
def OkeyOrdersSaid : Prop := okeyOrdersRow.holds Tryd.pinned (OpenSpec.ofChange okeyOrdersSpec)

/-- ITS FALSE NEIGHBOUR: 'it returns false'. Refute it at one input. -/
def okeyOrdersWrong : ChangeSpec := { name := "okeyOrders", fn := fun _ => fun
  | [d1, d2, d3, d4, d5, d6] => { results := [.lit (.bool false)], args := [d1, d2, d3, d4, d5, d6] }
  | _ => none }
def OkeyOrdersWrongFalsely : Prop := okeyOrdersRow.holds Tryd.pinned (OpenSpec.ofChange okeyOrdersWrong)

/- THE SECOND FORM. 'bulk': how many values and letters a reading holds, each counted each time it is reached (what is shared counts as often as it is met; a slice's spare places count too). A statement '..UptoSaid' is the law's where the arguments, and the package variables that the reading takes, are together of bulk at most 1048576: NARROWER than '..Said'. Prove '..Said' where nothing that the law and all that it calls make is longer than what came in: it says more and counts as full. Else prove '..UptoSaid'. A law counts once. -/
mutual
def uptoBulk {H : Type} : DataW H → Nat
  | .lit (.string bytes) => bytes.length + 1
  | .lit _ => 1
  | .nil => 1
  | .ptr d => uptoBulk d + 1
  | .slice elems spare => uptoBulkAll elems + uptoBulkAll spare + 1
  | .agg parts => uptoBulkAll parts + 1
  | .iface _ d => uptoBulk d + 1
  | .map entries => uptoBulkEntries entries + 1
  | .held _ => 1
def uptoBulkAll {H : Type} : List (DataW H) → Nat
  | [] => 0
  | d :: r => uptoBulk d + uptoBulkAll r
def uptoBulkEntries {H : Type} : List (Lit × DataW H) → Nat
  | [] => 0
  | x :: r => uptoBulkEntry x + uptoBulkEntries r
def uptoBulkEntry {H : Type} : Lit × DataW H → Nat
  | (.string bytes, d) => bytes.length + uptoBulk d + 1
  | (_, d) => uptoBulk d + 1
 end
def uptoSmall : (H : Type) → List (DataW H) → Bool := fun _ ds => decide (uptoBulkAll ds ≤ 1048576)
def OpenSpec.upto (s : _root_.Go.ChangeSpec) : _root_.Go.OpenSpec := { _root_.Go.OpenSpec.ofChange s with cond := some uptoSmall }

/-- 'cornucopialaw2.OkeyNext', WHERE WHAT IT READS IS OF BULK AT MOST 1048576: true; the input reads as it did. -/
def okeyNextUptoRow : OpenClaim := { program := "ytbejofbbmpmnfaadoor", sum := "b49eb38f2cc209175e89356bbf68b55f1e176b7f62c17560bf569b4008bce5b9", func := "cornucopia/cornucopialaw2.OkeyNext", spec := "okeyNext", inPlace := ["internal/bytealg.CountString", "internal/bytealg.IndexByteString", "internal/bytealg.IndexString", "internal/abi.NoEscape", "internal/bytealg.MakeNoZero"], named := ["internal/bytealg.MaxLen", "unicode/utf8.first", "unicode/utf8.acceptRanges"], apart := false, laid := [("unicode/utf8.acceptRanges", laid_unicode_utf8_acceptRanges), ("unicode/utf8.first", laid_unicode_utf8_first)], narrowed := true }
def OkeyNextUptoSaid : Prop := okeyNextUptoRow.holds Tryd.pinned (OpenSpec.upto okeyNextSpec)

/-- 'cornucopialaw2.OkeyLong', WHERE WHAT IT READS IS OF BULK AT MOST 1048576: true; the input reads as it did. -/
def okeyLongUptoRow : OpenClaim := { program := "ytbejofbbmpmnfaadoor", sum := "b49eb38f2cc209175e89356bbf68b55f1e176b7f62c17560bf569b4008bce5b9", func := "cornucopia/cornucopialaw2.OkeyLong", spec := "okeyLong", inPlace := ["internal/bytealg.CountString", "internal/bytealg.IndexByteString", "internal/bytealg.IndexString", "internal/abi.NoEscape", "internal/bytealg.MakeNoZero"], named := ["internal/bytealg.MaxLen", "unicode/utf8.first", "unicode/utf8.acceptRanges"], apart := false, laid := [("unicode/utf8.acceptRanges", laid_unicode_utf8_acceptRanges), ("unicode/utf8.first", laid_unicode_utf8_first)], narrowed := true }
def OkeyLongUptoSaid : Prop := okeyLongUptoRow.holds Tryd.pinned (OpenSpec.upto okeyLongSpec)

/-- 'cornucopialaw2.OkeyBack', WHERE WHAT IT READS IS OF BULK AT MOST 1048576: true; the input reads as it did. -/
def okeyBackUptoRow : OpenClaim := { program := "ytbejofbbmpmnfaadoor", sum := "b49eb38f2cc209175e89356bbf68b55f1e176b7f62c17560bf569b4008bce5b9", func := "cornucopia/cornucopialaw2.OkeyBack", spec := "okeyBack", inPlace := ["internal/bytealg.CountString", "internal/bytealg.IndexByteString", "internal/bytealg.IndexString", "internal/abi.NoEscape", "internal/bytealg.MakeNoZero"], named := ["internal/bytealg.MaxLen", "unicode/utf8.first", "unicode/utf8.acceptRanges"], apart := false, laid := [("unicode/utf8.acceptRanges", laid_unicode_utf8_acceptRanges), ("unicode/utf8.first", laid_unicode_utf8_first)], narrowed := true }
def OkeyBackUptoSaid : Prop := okeyBackUptoRow.holds Tryd.pinned (OpenSpec.upto okeyBackSpec)

/-- 'cornucopialaw2.OkeyOrders', WHERE WHAT IT READS IS OF BULK AT MOST 1048576: true; the input reads as it did. -/
def okeyOrdersUptoRow : OpenClaim := { program := "ytbejofbbmpmnfaadoor", sum := "b49eb38f2cc209175e89356bbf68b55f1e176b7f62c17560bf569b4008bce5b9", func := "cornucopia/cornucopialaw2.OkeyOrders", spec := "okeyOrders", inPlace := ["internal/bytealg.CountString", "internal/bytealg.IndexByteString", "internal/bytealg.IndexString", "internal/abi.NoEscape", "internal/bytealg.MakeNoZero"], named := ["internal/bytealg.MaxLen", "unicode/utf8.first", "unicode/utf8.acceptRanges"], apart := false, laid := [("unicode/utf8.acceptRanges", laid_unicode_utf8_acceptRanges), ("unicode/utf8.first", laid_unicode_utf8_first)], narrowed := true }
def OkeyOrdersUptoSaid : Prop := okeyOrdersUptoRow.holds Tryd.pinned (OpenSpec.upto okeyOrdersSpec)

end Rows
end Go.Proofs.YtbejofbbmpmnfaaDoor
