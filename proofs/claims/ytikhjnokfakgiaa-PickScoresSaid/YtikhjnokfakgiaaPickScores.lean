/- PickScores: what has the greatest score, if it is full, is next; a version in which no level is full has no job; with one table less no score rises. -/
import Derived.Test.YtikhjnokfakgiaaPkH
namespace Go.Proofs.Ytikhjnokfakgiaa.Pure
open Go.RowKit Go.Proofs.Ytikhjnokfakgiaa.PAll Go.Proofs.YtikhjnokfakgiaaW.PrintWords
theorem PickScores_row (x y z : Int) (A : Option Addr) (c : Nat) (l : List Pk.Tb) (k : Int) (W : World) (hr : Kd.C k42 W A l.length l) (hc : l.length ≤ c) :
    Calls Try.prog 3 #[.agg #[.int .i64 x, .int .i64 y, .int .u64 z, .slice A l.length c], .int .i64 k] W fun e w' => e = .returned (.bool true) ∧ Below W.heap.size W w' := Pk.PickScores_walk x y z k W hr hc
end Go.Proofs.Ytikhjnokfakgiaa.Pure
