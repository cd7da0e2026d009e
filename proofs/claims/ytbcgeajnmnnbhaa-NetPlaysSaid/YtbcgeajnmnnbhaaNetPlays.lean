/- NetPlays: the row's words. -/
import Derived.Test.YtbcgeajnmnnbhaaNetPlw
namespace Go.Proofs.Ytbcgeajnmnnbhaa.Pure
open Go.RowKit Go.Proofs.YtbcgeajnmnnbhaaW.PrintWords
theorem NetPlays_row (zero : Bool) (A : Option Addr) (c : Nat) (l : List Nt.Sop) (W : World) (hr : Kd.C RoS.k48 W A l.length l) (hc : l.length ≤ c) (hb : l.length * Try.prog.bytesOf 48 ≤ 140737488351232 ∧ ∀ x ∈ l, ((Lit.int .i64 x.f0).wf = true ∧ (Lit.int .i64 x.f1).wf = true ∧ (Lit.int .i64 x.f2).wf = true ∧ (Lit.int .i64 x.f3).wf = true ∧ (x.f4.length * Try.prog.bytesOf 27 ≤ 140737488351232 ∧ ∀ q_ ∈ x.f4, ((Lit.int .i64 q_.f0).wf = true ∧ (Lit.int .i64 q_.f1).wf = true ∧ q_.f2.size ≤ 140737488351232)))) : Calls Try.prog 6 #[.bool zero, .slice A l.length c] W fun e w' => e = .returned (.bool true) ∧ Below W.heap.size W w' := Nt.NetPlays_walk zero A c l W hr hc fun x hx => Nt.opok_of (hb.2 x hx)
end Go.Proofs.Ytbcgeajnmnnbhaa.Pure
