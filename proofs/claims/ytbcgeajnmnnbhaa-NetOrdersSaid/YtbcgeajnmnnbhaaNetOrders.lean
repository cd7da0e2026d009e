/- NetOrders: the row's words. -/
import Derived.Test.YtbcgeajnmnnbhaaNetOrs
namespace Go.Proofs.Ytbcgeajnmnnbhaa.Pure
open Go.RowKit Go.Proofs.YtbcgeajnmnnbhaaW.PrintWords
theorem NetOrders_row (n k z : Int) (W : World) : Calls Try.prog 4 #[.int .i64 n, .int .i64 k, .int .i64 z] W fun e w' => e = .returned (.bool true) ∧ Below W.heap.size W w' := Nt.NetOrders_walk n k z W
end Go.Proofs.Ytbcgeajnmnnbhaa.Pure
