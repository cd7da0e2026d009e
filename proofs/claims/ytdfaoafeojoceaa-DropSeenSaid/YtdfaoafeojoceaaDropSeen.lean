/- DropSeen: without a filter what is there, at each pin and from the greatest number on, is the same behind Run as ahead of it; nothing is left that nobody sees. -/
import Derived.Test.YtdfaoafeojoceaaDrSS
namespace Go.Proofs.Ytdfaoafeojoceaa.Pure
open Go.RowKit Go.Proofs.Ytdfaoafeojoceaa.Rw Go.Proofs.Ytdfaoafeojoceaa.PAll Go.Proofs.YtdfaoafeojoceaaW.PrintWords
theorem DropSeen_row (A : Option Addr) (c : Nat) (l : List Dr.En) (bottom : Bool) (B : Option Addr) (c2 : Nat) (pins : List Int) (W : World) (hr : Kd.C k37 W A l.length l) (hc : l.length ≤ c) (hp : Kd.C (Kd.int .u64) W B pins.length pins) (hc2 : pins.length ≤ c2) (hw : ∀ p ∈ pins, (Lit.int .u64 p).wf = true) :
    Calls Try.prog 4 #[.slice A l.length c, .bool bottom, .slice B pins.length c2] W fun e w' => e = .returned (.bool true) ∧ Below W.heap.size W w' := Dr.DropSeen_walk bottom W (Dr.of_kdE hr) hc (Dr.of_kdN hp) hc2 hr.2.1 hp.2.1 hw
end Go.Proofs.Ytdfaoafeojoceaa.Pure
