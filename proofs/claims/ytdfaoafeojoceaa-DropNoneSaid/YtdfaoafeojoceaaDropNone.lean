/- DropNone: a nil and a zero filter let nothing go. -/
import Derived.Test.YtdfaoafeojoceaaDrO
namespace Go.Proofs.Ytdfaoafeojoceaa.Pure
open Go.RowKit Go.Proofs.Ytdfaoafeojoceaa.PAll Go.Proofs.YtdfaoafeojoceaaW.PrintWords
theorem DropNone_row (key : ByteArray) (A : Option Addr) (c : Nat) (l : List Dr.En) (W : World) (hr : Kd.C k37 W A l.length l) (hc : l.length ≤ c) :
    Calls Try.prog 3 #[.string key, .slice A l.length c] W fun e w' => e = .returned (.bool true) ∧ Below W.heap.size W w' := Dr.DropNone_walk key A c l W hr hc
end Go.Proofs.Ytdfaoafeojoceaa.Pure
