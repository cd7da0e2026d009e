/-
  DERIVED. GIVEN WITH THE SEED: THE CARDS: each row of YtbejofbbmpmnfaaDoorRows.lean that lists a variable, with what it lists TIED to the program's text (the seventh form; the later family's looks); each row that meets fmt, with fmt's text TOLD by the authors' own Lean function (tested against real Go, not proved from fmt's source: count such statements apart). THE CARD IS WHAT COUNTS. Prove the row's statement (the work); the ties are given (YtbejofbbmpmnfaaDoorTie.lean); close each card by the builder's one call (the guide's Derived/Test/ToyasCard.lean, 'card_holds'). Laid BY PROGRAM, IN A SANDBOX (cutbox-door.mjs). By AI agents, Wed Nov 11 2026. No macro, syntax, notation, axiom, sorry.
-/
import Derived.Test.YtbejofbbmpmnfaaDoorRows
import GoSem.ClaimSeven
namespace Go.Proofs.YtbejofbbmpmnfaaDoor
namespace Rows

/-- THE TIED CARD OF 'cornucopialaw2.OkeyNext'. -/
def okeyNextCard : Claim7 := { stood := { row := okeyNextRow, standIns := [], harness := (true, "8564af925a2ae8460c9fd408e737836eb44d40e32425a3fd22d4f2aa6dca1f7b"), looks := false }, kinds := [], alts := [], laidByText := true, laidKinds := [.data, .pinned], laidTests := true, laidLooks := .later }
def OkeyNextCardSaid : Prop := Claim7.holds Tryd.pinned (.plain (OpenSpec.ofChange okeyNextSpec)) okeyNextCard

/-- THE TIED CARD OF 'cornucopialaw2.OkeyLong'. -/
def okeyLongCard : Claim7 := { stood := { row := okeyLongRow, standIns := [], harness := (true, "8564af925a2ae8460c9fd408e737836eb44d40e32425a3fd22d4f2aa6dca1f7b"), looks := false }, kinds := [], alts := [], laidByText := true, laidKinds := [.data, .pinned], laidTests := true, laidLooks := .later }
def OkeyLongCardSaid : Prop := Claim7.holds Tryd.pinned (.plain (OpenSpec.ofChange okeyLongSpec)) okeyLongCard

/-- THE TIED CARD OF 'cornucopialaw2.OkeyBack'. -/
def okeyBackCard : Claim7 := { stood := { row := okeyBackRow, standIns := [], harness := (true, "8564af925a2ae8460c9fd408e737836eb44d40e32425a3fd22d4f2aa6dca1f7b"), looks := false }, kinds := [], alts := [], laidByText := true, laidKinds := [.data, .pinned], laidTests := true, laidLooks := .later }
def OkeyBackCardSaid : Prop := Claim7.holds Tryd.pinned (.plain (OpenSpec.ofChange okeyBackSpec)) okeyBackCard

/-- THE TIED CARD OF 'cornucopialaw2.OkeyOrders'. -/
def okeyOrdersCard : Claim7 := { stood := { row := okeyOrdersRow, standIns := [], harness := (true, "8564af925a2ae8460c9fd408e737836eb44d40e32425a3fd22d4f2aa6dca1f7b"), looks := false }, kinds := [], alts := [], laidByText := true, laidKinds := [.data, .pinned], laidTests := true, laidLooks := .later }
def OkeyOrdersCardSaid : Prop := Claim7.holds Tryd.pinned (.plain (OpenSpec.ofChange okeyOrdersSpec)) okeyOrdersCard

/-- THE SECOND FORM's CARD OF 'cornucopialaw2.OkeyNext'. -/
def okeyNextUptoCard : Claim7 := { stood := { row := okeyNextUptoRow, standIns := [], harness := (true, "8564af925a2ae8460c9fd408e737836eb44d40e32425a3fd22d4f2aa6dca1f7b"), looks := false }, kinds := [], alts := [], laidByText := true, laidKinds := [.data, .pinned], laidTests := true, laidLooks := .later }
def OkeyNextUptoCardSaid : Prop := Claim7.holds Tryd.pinned (.plain (OpenSpec.upto okeyNextSpec)) okeyNextUptoCard

/-- THE SECOND FORM's CARD OF 'cornucopialaw2.OkeyLong'. -/
def okeyLongUptoCard : Claim7 := { stood := { row := okeyLongUptoRow, standIns := [], harness := (true, "8564af925a2ae8460c9fd408e737836eb44d40e32425a3fd22d4f2aa6dca1f7b"), looks := false }, kinds := [], alts := [], laidByText := true, laidKinds := [.data, .pinned], laidTests := true, laidLooks := .later }
def OkeyLongUptoCardSaid : Prop := Claim7.holds Tryd.pinned (.plain (OpenSpec.upto okeyLongSpec)) okeyLongUptoCard

/-- THE SECOND FORM's CARD OF 'cornucopialaw2.OkeyBack'. -/
def okeyBackUptoCard : Claim7 := { stood := { row := okeyBackUptoRow, standIns := [], harness := (true, "8564af925a2ae8460c9fd408e737836eb44d40e32425a3fd22d4f2aa6dca1f7b"), looks := false }, kinds := [], alts := [], laidByText := true, laidKinds := [.data, .pinned], laidTests := true, laidLooks := .later }
def OkeyBackUptoCardSaid : Prop := Claim7.holds Tryd.pinned (.plain (OpenSpec.upto okeyBackSpec)) okeyBackUptoCard

/-- THE SECOND FORM's CARD OF 'cornucopialaw2.OkeyOrders'. -/
def okeyOrdersUptoCard : Claim7 := { stood := { row := okeyOrdersUptoRow, standIns := [], harness := (true, "8564af925a2ae8460c9fd408e737836eb44d40e32425a3fd22d4f2aa6dca1f7b"), looks := false }, kinds := [], alts := [], laidByText := true, laidKinds := [.data, .pinned], laidTests := true, laidLooks := .later }
def OkeyOrdersUptoCardSaid : Prop := Claim7.holds Tryd.pinned (.plain (OpenSpec.upto okeyOrdersSpec)) okeyOrdersUptoCard
end Rows
end Go.Proofs.YtbejofbbmpmnfaaDoor
