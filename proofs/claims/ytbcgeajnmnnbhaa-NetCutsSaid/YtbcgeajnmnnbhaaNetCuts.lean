/- NetCuts: the row's words. -/
import Derived.Test.YtbcgeajnmnnbhaaNetCts
namespace Go.Proofs.Ytbcgeajnmnnbhaa.Pure
open Go.RowKit Go.Proofs.YtbcgeajnmnnbhaaW.PrintWords
theorem NetCuts_row (a b c n : Int) (W : World) (ha : (Lit.int .i64 a).wf = true) (hb : (Lit.int .i64 b).wf = true) (hc : (Lit.int .i64 c).wf = true) : Calls Try.prog 5 #[.int .i64 a, .int .i64 b, .int .i64 c, .int .i64 n] W fun e w' => e = .returned (.bool true) ∧ Below W.heap.size W w' := Nt.NetCuts_walk a b c n ((Nt.wf_i _).1 ha) ((Nt.wf_i _).1 hb) ((Nt.wf_i _).1 hc) W
end Go.Proofs.Ytbcgeajnmnnbhaa.Pure
