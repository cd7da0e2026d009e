/- NetMoves: the row's words. -/
import Derived.Test.YtbcgeajnmnnbhaaNetMvw
namespace Go.Proofs.Ytbcgeajnmnnbhaa.Pure
open Go.RowKit Go.Proofs.YtbcgeajnmnnbhaaW.PrintWords
theorem NetMoves_row (n k z a b : Int) (W : World) (ha : (Lit.int .i64 a).wf = true) (hb : (Lit.int .i64 b).wf = true) : Calls Try.prog 3 #[.int .i64 n, .int .i64 k, .int .i64 z, .int .i64 a, .int .i64 b] W fun e w' => e = .returned (.bool true) ∧ Below W.heap.size W w' := Nt.NetMoves_walk n k z a b ((Nt.wf_i _).1 ha) ((Nt.wf_i _).1 hb) W
end Go.Proofs.Ytbcgeajnmnnbhaa.Pure
