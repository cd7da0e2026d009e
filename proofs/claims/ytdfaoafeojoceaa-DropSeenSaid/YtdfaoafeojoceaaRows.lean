/-
  No cell of these rows narrows 'for every input' (looked for: loops, veiled, ifaces, maps, wideKeys, modest, calm, conditions, laid).
  DERIVED. THE GIVEN ROWS OF THIS SEAT. 4 by the template 'for every input the law returns true; each argument reads behind the call as it read before'; 0 by the template 'total and deterministic' (their statements: YtdfaoafeojoceaaTotals.lean).
  GIVEN WITH THE SEED: the statements are not yours to turn. If you find one false, say at which input.
  Laid BY PROGRAM, IN A SANDBOX (cutbox-rows.mjs): the forced cells as the released guide's own fill.sh prints them over the translation d464d30d5bf3e5ea… (all of the seat's roots in one cut). By AI agents, Wed Nov 11 2026. No macro, syntax, notation, axiom, sorry.
-/
import Derived.Test.YtdfaoafeojoceaaChecked
import GoSem.Claim
import GoSem.ClaimJoined
import GoSem.ClaimMapViews
import Derived.JoinedTies
import Derived.KernelRfl
namespace Go.Proofs.Ytdfaoafeojoceaa
/- THE CELL 'sum', in the pinned program and in every row, IS THE sha256 OF THE DUMP (.gsa) THAT YtdfaoafeojoceaaProg.lean LOADS. Nothing in Lean hashes anything: it is a label: what it is worth is what the hold of that sum in a sandbox is worth. -/
noncomputable def Try.pinned : Pinned := { name := "ytdfaoafeojoceaa", sum := "d464d30d5bf3e5ea4e137a0700078f923eae6e00b5cfb666646fe46bae81b75a", checked := Try.checked }
namespace Rows
def none {H : Type} : Left H := { results := [], args := [] }

/-- 'cornucopialaw16.DropNone': WHATEVER THE INPUT: true; the input reads as it did. -/
def dropNoneSpec : ChangeSpec := { name := "dropNone", fn := fun _ => fun
  | [d1, d2] => { results := [.lit (.bool true)], args := [d1, d2] }
  | _ => none }
def dropNoneRow : OpenClaim := { program := "ytdfaoafeojoceaa", sum := "d464d30d5bf3e5ea4e137a0700078f923eae6e00b5cfb666646fe46bae81b75a", func := "cornucopia/cornucopialaw16.DropNone", spec := "dropNone", unfollowed := true, recurses := true, apart := false }
def DropNoneSaid : Prop := dropNoneRow.holds Try.pinned (OpenSpec.ofChange dropNoneSpec)

/-- ITS FALSE NEIGHBOUR: 'it returns false'. Refute it at one input. -/
def dropNoneWrong : ChangeSpec := { name := "dropNone", fn := fun _ => fun
  | [d1, d2] => { results := [.lit (.bool false)], args := [d1, d2] }
  | _ => none }
def DropNoneWrongFalsely : Prop := dropNoneRow.holds Try.pinned (OpenSpec.ofChange dropNoneWrong)

/-- 'cornucopialaw16.DropSeen': WHATEVER THE INPUT: true; the input reads as it did. -/
def dropSeenSpec : ChangeSpec := { name := "dropSeen", fn := fun _ => fun
  | [d1, d2, d3] => { results := [.lit (.bool true)], args := [d1, d2, d3] }
  | _ => none }
def dropSeenRow : OpenClaim := { program := "ytdfaoafeojoceaa", sum := "d464d30d5bf3e5ea4e137a0700078f923eae6e00b5cfb666646fe46bae81b75a", func := "cornucopia/cornucopialaw16.DropSeen", spec := "dropSeen", unfollowed := true, recurses := true, apart := false }
def DropSeenSaid : Prop := dropSeenRow.holds Try.pinned (OpenSpec.ofChange dropSeenSpec)

/-- ITS FALSE NEIGHBOUR: 'it returns false'. Refute it at one input. -/
def dropSeenWrong : ChangeSpec := { name := "dropSeen", fn := fun _ => fun
  | [d1, d2, d3] => { results := [.lit (.bool false)], args := [d1, d2, d3] }
  | _ => none }
def DropSeenWrongFalsely : Prop := dropSeenRow.holds Try.pinned (OpenSpec.ofChange dropSeenWrong)

/-- 'cornucopialaw16.DropGoes': WHATEVER THE INPUT: true; the input reads as it did. -/
def dropGoesSpec : ChangeSpec := { name := "dropGoes", fn := fun _ => fun
  | [d1, d2, d3, d4] => { results := [.lit (.bool true)], args := [d1, d2, d3, d4] }
  | _ => none }
def dropGoesRow : OpenClaim := { program := "ytdfaoafeojoceaa", sum := "d464d30d5bf3e5ea4e137a0700078f923eae6e00b5cfb666646fe46bae81b75a", func := "cornucopia/cornucopialaw16.DropGoes", spec := "dropGoes", unfollowed := true, recurses := true, apart := false }
def DropGoesSaid : Prop := dropGoesRow.holds Try.pinned (OpenSpec.ofChange dropGoesSpec)

/-- ITS FALSE NEIGHBOUR: 'it returns false'. Refute it at one input. -/
def dropGoesWrong : ChangeSpec := { name := "dropGoes", fn := fun _ => fun
  | [d1, d2, d3, d4] => { results := [.lit (.bool false)], args := [d1, d2, d3, d4] }
  | _ => none }
def DropGoesWrongFalsely : Prop := dropGoesRow.holds Try.pinned (OpenSpec.ofChange dropGoesWrong)

/-- 'cornucopialaw16.DropLongest': WHATEVER THE INPUT: true; the input reads as it did. -/
def dropLongestSpec : ChangeSpec := { name := "dropLongest", fn := fun _ => fun
  | [d1, d2, d3, d4, d5, d6] => { results := [.lit (.bool true)], args := [d1, d2, d3, d4, d5, d6] }
  | _ => none }
def dropLongestRow : OpenClaim := { program := "ytdfaoafeojoceaa", sum := "d464d30d5bf3e5ea4e137a0700078f923eae6e00b5cfb666646fe46bae81b75a", func := "cornucopia/cornucopialaw16.DropLongest", spec := "dropLongest", unfollowed := true, recurses := true, apart := false }
def DropLongestSaid : Prop := dropLongestRow.holds Try.pinned (OpenSpec.ofChange dropLongestSpec)

/-- ITS FALSE NEIGHBOUR: 'it returns false'. Refute it at one input. -/
def dropLongestWrong : ChangeSpec := { name := "dropLongest", fn := fun _ => fun
  | [d1, d2, d3, d4, d5, d6] => { results := [.lit (.bool false)], args := [d1, d2, d3, d4, d5, d6] }
  | _ => none }
def DropLongestWrongFalsely : Prop := dropLongestRow.holds Try.pinned (OpenSpec.ofChange dropLongestWrong)

/- THE SECOND FORM. 'bulk': how many values and letters a reading holds, each counted each time it is reached (what is shared counts as often as it is met; a slice's spare places count too). A statement '..UptoSaid' is the law's where the arguments, and the package variables that the reading takes, are together of bulk at most 1048576: NARROWER than '..Said'. Prove '..Said' where nothing that the law and all that it calls make is longer than what came in: it says more and counts as full. Else prove '..UptoSaid'. A law counts once. -/
mutual
def uptoBulk {H : Type} : DataW H → Nat
  | .lit (.string bytes) => bytes.length + 1
  | .lit _ => 1
  | .nil => 1
  | .ptr d => uptoBulk d + 1
  | .slice elems spare => uptoBulkAll elems + uptoBulkAll spare + 1
  | .agg parts => uptoBulkAll parts + 1
  | .iface _ d => uptoBulk d + 1
  | .map entries => uptoBulkEntries entries + 1
  | .held _ => 1
def uptoBulkAll {H : Type} : List (DataW H) → Nat
  | [] => 0
  | d :: r => uptoBulk d + uptoBulkAll r
def uptoBulkEntries {H : Type} : List (Lit × DataW H) → Nat
  | [] => 0
  | x :: r => uptoBulkEntry x + uptoBulkEntries r
def uptoBulkEntry {H : Type} : Lit × DataW H → Nat
  | (.string bytes, d) => bytes.length + uptoBulk d + 1
  | (_, d) => uptoBulk d + 1
 end
def uptoSmall : (H : Type) → List (DataW H) → Bool := fun _ ds => decide (uptoBulkAll ds ≤ 1048576)
def OpenSpec.upto (s : _root_.Go.ChangeSpec) : _root_.Go.OpenSpec := { _root_.Go.OpenSpec.ofChange s with cond := some uptoSmall }

/-- 'cornucopialaw16.DropNone', WHERE WHAT IT READS IS OF BULK AT MOST 1048576: true; the input reads as it did. -/
def dropNoneUptoRow : OpenClaim := { program := "ytdfaoafeojoceaa", sum := "d464d30d5bf3e5ea4e137a0700078f923eae6e00b5cfb666646fe46bae81b75a", func := "cornucopia/cornucopialaw16.DropNone", spec := "dropNone", unfollowed := true, recurses := true, apart := false, narrowed := true }
def DropNoneUptoSaid : Prop := dropNoneUptoRow.holds Try.pinned (OpenSpec.upto dropNoneSpec)

/-- 'cornucopialaw16.DropSeen', WHERE WHAT IT READS IS OF BULK AT MOST 1048576: true; the input reads as it did. -/
def dropSeenUptoRow : OpenClaim := { program := "ytdfaoafeojoceaa", sum := "d464d30d5bf3e5ea4e137a0700078f923eae6e00b5cfb666646fe46bae81b75a", func := "cornucopia/cornucopialaw16.DropSeen", spec := "dropSeen", unfollowed := true, recurses := true, apart := false, narrowed := true }
def DropSeenUptoSaid : Prop := dropSeenUptoRow.holds Try.pinned (OpenSpec.upto dropSeenSpec)

/-- 'cornucopialaw16.DropGoes', WHERE WHAT IT READS IS OF BULK AT MOST 1048576: true; the input reads as it did. -/
def dropGoesUptoRow : OpenClaim := { program := "ytdfaoafeojoceaa", sum := "d464d30d5bf3e5ea4e137a0700078f923eae6e00b5cfb666646fe46bae81b75a", func := "cornucopia/cornucopialaw16.DropGoes", spec := "dropGoes", unfollowed := true, recurses := true, apart := false, narrowed := true }
def DropGoesUptoSaid : Prop := dropGoesUptoRow.holds Try.pinned (OpenSpec.upto dropGoesSpec)

/-- 'cornucopialaw16.DropLongest', WHERE WHAT IT READS IS OF BULK AT MOST 1048576: true; the input reads as it did. -/
def dropLongestUptoRow : OpenClaim := { program := "ytdfaoafeojoceaa", sum := "d464d30d5bf3e5ea4e137a0700078f923eae6e00b5cfb666646fe46bae81b75a", func := "cornucopia/cornucopialaw16.DropLongest", spec := "dropLongest", unfollowed := true, recurses := true, apart := false, narrowed := true }
def DropLongestUptoSaid : Prop := dropLongestUptoRow.holds Try.pinned (OpenSpec.upto dropLongestSpec)

end Rows
end Go.Proofs.Ytdfaoafeojoceaa
