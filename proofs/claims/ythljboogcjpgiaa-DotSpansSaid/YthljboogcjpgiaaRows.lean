/-
  No cell of these rows narrows 'for every input' (looked for: loops, veiled, ifaces, maps, wideKeys, modest, calm, conditions, laid).
  DERIVED. THE GIVEN ROWS OF THIS SEAT. 5 by the template 'for every input the law returns true; each argument reads behind the call as it read before'; 0 by the template 'total and deterministic' (their statements: YthljboogcjpgiaaTotals.lean).
  GIVEN WITH THE SEED: the statements are not yours to turn. If you find one false, say at which input.
  Laid BY PROGRAM, IN A SANDBOX (cutbox-rows.mjs): the forced cells as the released guide's own fill.sh prints them over the translation f7a1fd71570c8177… (all of the seat's roots in one cut). By AI agents, Wed Nov 11 2026. No macro, syntax, notation, axiom, sorry.
-/
import Derived.Test.YthljboogcjpgiaaChecked
import GoSem.Claim
import GoSem.ClaimJoined
import GoSem.ClaimMapViews
import Derived.JoinedTies
import Derived.KernelRfl
namespace Go.Proofs.Ythljboogcjpgiaa
/- THE CELL 'sum', in the pinned program and in every row, IS THE sha256 OF THE DUMP (.gsa) THAT YthljboogcjpgiaaProg.lean LOADS. Nothing in Lean hashes anything: it is a label: what it is worth is what the hold of that sum in a sandbox is worth. -/
noncomputable def Try.pinned : Pinned := { name := "ythljboogcjpgiaa", sum := "f7a1fd71570c81770428ed5a3356e02c33975f2feb6512b41492d7fb712c605e", checked := Try.checked }
namespace Rows
def none {H : Type} : Left H := { results := [], args := [] }

/-- 'cornucopialaw18.DotTells': WHATEVER THE INPUT: true; the input reads as it did. -/
def dotTellsSpec : ChangeSpec := { name := "dotTells", fn := fun _ => fun
  | [d1, d2, d3, d4] => { results := [.lit (.bool true)], args := [d1, d2, d3, d4] }
  | _ => none }
def dotTellsRow : OpenClaim := { program := "ythljboogcjpgiaa", sum := "f7a1fd71570c81770428ed5a3356e02c33975f2feb6512b41492d7fb712c605e", func := "cornucopia/cornucopialaw18.DotTells", spec := "dotTells", inPlace := ["internal/bytealg.Compare"], unfollowed := true, recurses := true, plainKeys := false, apart := false }
def DotTellsSaid : Prop := dotTellsRow.holds Try.pinned (OpenSpec.ofChange dotTellsSpec)

/-- ITS FALSE NEIGHBOUR: 'it returns false'. Refute it at one input. -/
def dotTellsWrong : ChangeSpec := { name := "dotTells", fn := fun _ => fun
  | [d1, d2, d3, d4] => { results := [.lit (.bool false)], args := [d1, d2, d3, d4] }
  | _ => none }
def DotTellsWrongFalsely : Prop := dotTellsRow.holds Try.pinned (OpenSpec.ofChange dotTellsWrong)

/-- 'cornucopialaw18.DotBack': WHATEVER THE INPUT: true; the input reads as it did. -/
def dotBackSpec : ChangeSpec := { name := "dotBack", fn := fun _ => fun
  | [d1, d2, d3] => { results := [.lit (.bool true)], args := [d1, d2, d3] }
  | _ => none }
def dotBackRow : OpenClaim := { program := "ythljboogcjpgiaa", sum := "f7a1fd71570c81770428ed5a3356e02c33975f2feb6512b41492d7fb712c605e", func := "cornucopia/cornucopialaw18.DotBack", spec := "dotBack", inPlace := ["internal/bytealg.Compare"], unfollowed := true, recurses := true, plainKeys := false, apart := false }
def DotBackSaid : Prop := dotBackRow.holds Try.pinned (OpenSpec.ofChange dotBackSpec)

/-- ITS FALSE NEIGHBOUR: 'it returns false'. Refute it at one input. -/
def dotBackWrong : ChangeSpec := { name := "dotBack", fn := fun _ => fun
  | [d1, d2, d3] => { results := [.lit (.bool false)], args := [d1, d2, d3] }
  | _ => none }
def DotBackWrongFalsely : Prop := dotBackRow.holds Try.pinned (OpenSpec.ofChange dotBackWrong)

/-- 'cornucopialaw18.DotSpans': WHATEVER THE INPUT: true; the input reads as it did. -/
def dotSpansSpec : ChangeSpec := { name := "dotSpans", fn := fun _ => fun
  | [d1, d2, d3] => { results := [.lit (.bool true)], args := [d1, d2, d3] }
  | _ => none }
def dotSpansRow : OpenClaim := { program := "ythljboogcjpgiaa", sum := "f7a1fd71570c81770428ed5a3356e02c33975f2feb6512b41492d7fb712c605e", func := "cornucopia/cornucopialaw18.DotSpans", spec := "dotSpans", inPlace := ["internal/bytealg.Compare"], unfollowed := true, recurses := true, plainKeys := false, apart := false }
def DotSpansSaid : Prop := dotSpansRow.holds Try.pinned (OpenSpec.ofChange dotSpansSpec)

/-- ITS FALSE NEIGHBOUR: 'it returns false'. Refute it at one input. -/
def dotSpansWrong : ChangeSpec := { name := "dotSpans", fn := fun _ => fun
  | [d1, d2, d3] => { results := [.lit (.bool false)], args := [d1, d2, d3] }
  | _ => none }
def DotSpansWrongFalsely : Prop := dotSpansRow.holds Try.pinned (OpenSpec.ofChange dotSpansWrong)

/-- 'cornucopialaw18.DotRemoves': WHATEVER THE INPUT: true; the input reads as it did. -/
def dotRemovesSpec : ChangeSpec := { name := "dotRemoves", fn := fun _ => fun
  | [d1, d2] => { results := [.lit (.bool true)], args := [d1, d2] }
  | _ => none }
def dotRemovesRow : OpenClaim := { program := "ythljboogcjpgiaa", sum := "f7a1fd71570c81770428ed5a3356e02c33975f2feb6512b41492d7fb712c605e", func := "cornucopia/cornucopialaw18.DotRemoves", spec := "dotRemoves", inPlace := ["internal/bytealg.Compare"], unfollowed := true, recurses := true, plainKeys := false, apart := false }
def DotRemovesSaid : Prop := dotRemovesRow.holds Try.pinned (OpenSpec.ofChange dotRemovesSpec)

/-- ITS FALSE NEIGHBOUR: 'it returns false'. Refute it at one input. -/
def dotRemovesWrong : ChangeSpec := { name := "dotRemoves", fn := fun _ => fun
  | [d1, d2] => { results := [.lit (.bool false)], args := [d1, d2] }
  | _ => none }
def DotRemovesWrongFalsely : Prop := dotRemovesRow.holds Try.pinned (OpenSpec.ofChange dotRemovesWrong)

/-- 'cornucopialaw18.DotNone': WHATEVER THE INPUT: true; the input reads as it did. -/
def dotNoneSpec : ChangeSpec := { name := "dotNone", fn := fun _ => fun
  | [d] => { results := [.lit (.bool true)], args := [d] }
  | _ => none }
def dotNoneRow : OpenClaim := { program := "ythljboogcjpgiaa", sum := "f7a1fd71570c81770428ed5a3356e02c33975f2feb6512b41492d7fb712c605e", func := "cornucopia/cornucopialaw18.DotNone", spec := "dotNone", inPlace := ["internal/bytealg.Compare"], unfollowed := true, recurses := true, plainKeys := false, apart := false }
def DotNoneSaid : Prop := dotNoneRow.holds Try.pinned (OpenSpec.ofChange dotNoneSpec)

/-- ITS FALSE NEIGHBOUR: 'it returns false'. Refute it at one input. -/
def dotNoneWrong : ChangeSpec := { name := "dotNone", fn := fun _ => fun
  | [d] => { results := [.lit (.bool false)], args := [d] }
  | _ => none }
def DotNoneWrongFalsely : Prop := dotNoneRow.holds Try.pinned (OpenSpec.ofChange dotNoneWrong)

/- THE SECOND FORM. 'bulk': how many values and letters a reading holds, each counted each time it is reached (what is shared counts as often as it is met; a slice's spare places count too). A statement '..UptoSaid' is the law's where the arguments, and the package variables that the reading takes, are together of bulk at most 1048576: NARROWER than '..Said'. Prove '..Said' where nothing that the law and all that it calls make is longer than what came in: it says more and counts as full. Else prove '..UptoSaid'. A law counts once. -/
mutual
def uptoBulk {H : Type} : DataW H → Nat
  | .lit (.string bytes) => bytes.length + 1
  | .lit _ => 1
  | .nil => 1
  | .ptr d => uptoBulk d + 1
  | .slice elems spare => uptoBulkAll elems + uptoBulkAll spare + 1
  | .agg parts => uptoBulkAll parts + 1
  | .iface _ d => uptoBulk d + 1
  | .map entries => uptoBulkEntries entries + 1
  | .held _ => 1
def uptoBulkAll {H : Type} : List (DataW H) → Nat
  | [] => 0
  | d :: r => uptoBulk d + uptoBulkAll r
def uptoBulkEntries {H : Type} : List (Lit × DataW H) → Nat
  | [] => 0
  | x :: r => uptoBulkEntry x + uptoBulkEntries r
def uptoBulkEntry {H : Type} : Lit × DataW H → Nat
  | (.string bytes, d) => bytes.length + uptoBulk d + 1
  | (_, d) => uptoBulk d + 1
 end
def uptoSmall : (H : Type) → List (DataW H) → Bool := fun _ ds => decide (uptoBulkAll ds ≤ 1048576)
def OpenSpec.upto (s : _root_.Go.ChangeSpec) : _root_.Go.OpenSpec := { _root_.Go.OpenSpec.ofChange s with cond := some uptoSmall }

/-- 'cornucopialaw18.DotTells', WHERE WHAT IT READS IS OF BULK AT MOST 1048576: true; the input reads as it did. -/
def dotTellsUptoRow : OpenClaim := { program := "ythljboogcjpgiaa", sum := "f7a1fd71570c81770428ed5a3356e02c33975f2feb6512b41492d7fb712c605e", func := "cornucopia/cornucopialaw18.DotTells", spec := "dotTells", inPlace := ["internal/bytealg.Compare"], unfollowed := true, recurses := true, plainKeys := false, apart := false, narrowed := true }
def DotTellsUptoSaid : Prop := dotTellsUptoRow.holds Try.pinned (OpenSpec.upto dotTellsSpec)

/-- 'cornucopialaw18.DotBack', WHERE WHAT IT READS IS OF BULK AT MOST 1048576: true; the input reads as it did. -/
def dotBackUptoRow : OpenClaim := { program := "ythljboogcjpgiaa", sum := "f7a1fd71570c81770428ed5a3356e02c33975f2feb6512b41492d7fb712c605e", func := "cornucopia/cornucopialaw18.DotBack", spec := "dotBack", inPlace := ["internal/bytealg.Compare"], unfollowed := true, recurses := true, plainKeys := false, apart := false, narrowed := true }
def DotBackUptoSaid : Prop := dotBackUptoRow.holds Try.pinned (OpenSpec.upto dotBackSpec)

/-- 'cornucopialaw18.DotSpans', WHERE WHAT IT READS IS OF BULK AT MOST 1048576: true; the input reads as it did. -/
def dotSpansUptoRow : OpenClaim := { program := "ythljboogcjpgiaa", sum := "f7a1fd71570c81770428ed5a3356e02c33975f2feb6512b41492d7fb712c605e", func := "cornucopia/cornucopialaw18.DotSpans", spec := "dotSpans", inPlace := ["internal/bytealg.Compare"], unfollowed := true, recurses := true, plainKeys := false, apart := false, narrowed := true }
def DotSpansUptoSaid : Prop := dotSpansUptoRow.holds Try.pinned (OpenSpec.upto dotSpansSpec)

/-- 'cornucopialaw18.DotRemoves', WHERE WHAT IT READS IS OF BULK AT MOST 1048576: true; the input reads as it did. -/
def dotRemovesUptoRow : OpenClaim := { program := "ythljboogcjpgiaa", sum := "f7a1fd71570c81770428ed5a3356e02c33975f2feb6512b41492d7fb712c605e", func := "cornucopia/cornucopialaw18.DotRemoves", spec := "dotRemoves", inPlace := ["internal/bytealg.Compare"], unfollowed := true, recurses := true, plainKeys := false, apart := false, narrowed := true }
def DotRemovesUptoSaid : Prop := dotRemovesUptoRow.holds Try.pinned (OpenSpec.upto dotRemovesSpec)

/-- 'cornucopialaw18.DotNone', WHERE WHAT IT READS IS OF BULK AT MOST 1048576: true; the input reads as it did. -/
def dotNoneUptoRow : OpenClaim := { program := "ythljboogcjpgiaa", sum := "f7a1fd71570c81770428ed5a3356e02c33975f2feb6512b41492d7fb712c605e", func := "cornucopia/cornucopialaw18.DotNone", spec := "dotNone", inPlace := ["internal/bytealg.Compare"], unfollowed := true, recurses := true, plainKeys := false, apart := false, narrowed := true }
def DotNoneUptoSaid : Prop := dotNoneUptoRow.holds Try.pinned (OpenSpec.upto dotNoneSpec)

end Rows
end Go.Proofs.Ythljboogcjpgiaa
