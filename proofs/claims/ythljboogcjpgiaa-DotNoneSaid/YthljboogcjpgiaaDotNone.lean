/- DotNone: of a nil set. -/
import Derived.Test.YthljboogcjpgiaaDotNil
namespace Go.Proofs.Ythljboogcjpgiaa.Pure
open Go.RowKit Go.Proofs.YthljboogcjpgiaaW.PrintWords
theorem DotNone_row (s : Ds.Dt) (W : World) : Calls Try.prog 7 #[.agg #[.int .u8 s.f0.f0, .int .u8 s.f0.f1, .int .u8 s.f0.f2, .int .u8 s.f0.f3, .int .u64 s.f1]] W fun e w' => e = .returned (.bool true) ∧ Below W.heap.size W w' := Ds.DotNone_walk _ _ _ _ _ W
end Go.Proofs.Ythljboogcjpgiaa.Pure
