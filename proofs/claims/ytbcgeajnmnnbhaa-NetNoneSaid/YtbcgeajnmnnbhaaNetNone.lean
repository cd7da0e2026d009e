/- NetNone: of a nil net. -/
import Derived.Test.YtbcgeajnmnnbhaaNetNon
namespace Go.Proofs.Ytbcgeajnmnnbhaa.Pure
open Go.RowKit Go.Proofs.YtbcgeajnmnnbhaaW.PrintWords
theorem NetNone_row (k : Int) (W : World) : Calls Try.prog 7 #[.int .i64 k] W fun e w' => e = .returned (.bool true) ∧ Below W.heap.size W w' := Nt.NetNone_walk k W
end Go.Proofs.Ytbcgeajnmnnbhaa.Pure
