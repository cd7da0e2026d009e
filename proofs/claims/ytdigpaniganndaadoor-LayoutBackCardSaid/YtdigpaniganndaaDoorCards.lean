/-
  DERIVED. GIVEN WITH THE SEED: THE CARDS: each row of YtdigpaniganndaaDoorRows.lean that lists a variable, with what it lists TIED to the program's text (the seventh form; the later family's looks); each row that meets fmt, with fmt's text TOLD by the authors' own Lean function (tested against real Go, not proved from fmt's source: count such statements apart). THE CARD IS WHAT COUNTS. Prove the row's statement (the work); the ties are given (YtdigpaniganndaaDoorTie.lean); close each card by the builder's one call (the guide's Derived/Test/ToyasCard.lean, 'card_holds'). Laid BY PROGRAM, IN A SANDBOX (cutbox-door.mjs). By AI agents, Wed Nov 11 2026. No macro, syntax, notation, axiom, sorry.
-/
import Derived.Test.YtdigpaniganndaaDoorRows
import GoSem.ClaimSeven
namespace Go.Proofs.YtdigpaniganndaaDoor
namespace Rows

/-- THE TIED CARD OF 'cornucopialaw21.LayoutTells'. -/
def layoutTellsCard : Claim7 := { stood := { row := layoutTellsRow, standIns := [], harness := (true, "3147ade169815b7fb4280c5e8e27ec9568ff726b60e89fb506904ddef3ecd7ac"), looks := false }, kinds := [], alts := [], laidByText := true, laidKinds := [.data, .pinned], laidTests := true, laidLooks := .later }
def LayoutTellsCardSaid : Prop := Claim7.holds Tryd.pinned (.plain (OpenSpec.ofChange layoutTellsSpec)) layoutTellsCard

/-- THE TIED CARD OF 'cornucopialaw21.LayoutBack'. -/
def layoutBackCard : Claim7 := { stood := { row := layoutBackRow, standIns := [], harness := (true, "3147ade169815b7fb4280c5e8e27ec9568ff726b60e89fb506904ddef3ecd7ac"), looks := false }, kinds := [], alts := [], laidByText := true, laidKinds := [.data, .pinned], laidTests := true, laidLooks := .later }
def LayoutBackCardSaid : Prop := Claim7.holds Tryd.pinned (.plain (OpenSpec.ofChange layoutBackSpec)) layoutBackCard

/-- THE TIED CARD OF 'cornucopialaw21.LayoutApart'. -/
def layoutApartCard : Claim7 := { stood := { row := layoutApartRow, standIns := [], harness := (true, "3147ade169815b7fb4280c5e8e27ec9568ff726b60e89fb506904ddef3ecd7ac"), looks := false }, kinds := [], alts := [], laidByText := true, laidKinds := [.data, .pinned], laidTests := true, laidLooks := .later }
def LayoutApartCardSaid : Prop := Claim7.holds Tryd.pinned (.plain (OpenSpec.ofChange layoutApartSpec)) layoutApartCard

/-- THE SECOND FORM's CARD OF 'cornucopialaw21.LayoutTells'. -/
def layoutTellsUptoCard : Claim7 := { stood := { row := layoutTellsUptoRow, standIns := [], harness := (true, "3147ade169815b7fb4280c5e8e27ec9568ff726b60e89fb506904ddef3ecd7ac"), looks := false }, kinds := [], alts := [], laidByText := true, laidKinds := [.data, .pinned], laidTests := true, laidLooks := .later }
def LayoutTellsUptoCardSaid : Prop := Claim7.holds Tryd.pinned (.plain (OpenSpec.upto layoutTellsSpec)) layoutTellsUptoCard

/-- THE SECOND FORM's CARD OF 'cornucopialaw21.LayoutBack'. -/
def layoutBackUptoCard : Claim7 := { stood := { row := layoutBackUptoRow, standIns := [], harness := (true, "3147ade169815b7fb4280c5e8e27ec9568ff726b60e89fb506904ddef3ecd7ac"), looks := false }, kinds := [], alts := [], laidByText := true, laidKinds := [.data, .pinned], laidTests := true, laidLooks := .later }
def LayoutBackUptoCardSaid : Prop := Claim7.holds Tryd.pinned (.plain (OpenSpec.upto layoutBackSpec)) layoutBackUptoCard

/-- THE SECOND FORM's CARD OF 'cornucopialaw21.LayoutApart'. -/
def layoutApartUptoCard : Claim7 := { stood := { row := layoutApartUptoRow, standIns := [], harness := (true, "3147ade169815b7fb4280c5e8e27ec9568ff726b60e89fb506904ddef3ecd7ac"), looks := false }, kinds := [], alts := [], laidByText := true, laidKinds := [.data, .pinned], laidTests := true, laidLooks := .later }
def LayoutApartUptoCardSaid : Prop := Claim7.holds Tryd.pinned (.plain (OpenSpec.upto layoutApartSpec)) layoutApartUptoCard
end Rows
end Go.Proofs.YtdigpaniganndaaDoor
