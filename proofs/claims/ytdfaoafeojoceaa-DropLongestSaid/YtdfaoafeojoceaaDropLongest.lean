/- DropLongest: of two rules the one of the longer prefix counts alone; of two of one prefix the last one. -/
import Derived.Test.YtdfaoafeojoceaaDrL
namespace Go.Proofs.Ytdfaoafeojoceaa.Pure
open Go.RowKit Go.Proofs.Ytdfaoafeojoceaa.PAll Go.Proofs.YtdfaoafeojoceaaW.PrintWords
theorem DropLongest_row (p more name : ByteArray) (a b c d n : Int) (x y : Bool) (W : World) (h : ((Lit.int .u8 a).wf = true ∧ (Lit.int .u8 b).wf = true ∧ (Lit.int .u8 c).wf = true ∧ (Lit.int .u8 d).wf = true) ∧ (Lit.int .u64 n).wf = true) :
    Calls Try.prog 6 #[.string p, .string more, .string name, .agg #[.int .u8 a, .int .u8 b, .int .u8 c, .int .u8 d, .int .u64 n], .bool x, .bool y] W fun e w' => e = .returned (.bool true) ∧ Below W.heap.size W w' := by
  by_cases g1 : (100 : Int) < p.size
  · exact Dr.longest_out p more name a b c d n x y W (.inl g1)
  by_cases g2 : (more.size : Int) < 1
  · exact Dr.longest_out p more name a b c d n x y W (.inr (.inl g2))
  by_cases g3 : (100 : Int) < more.size
  · exact Dr.longest_out p more name a b c d n x y W (.inr (.inr (.inl g3)))
  by_cases g4 : (100 : Int) < name.size
  · exact Dr.longest_out p more name a b c d n x y W (.inr (.inr (.inr (.inl g4))))
  by_cases g5 : n = 0
  · exact Dr.longest_out p more name a b c d n x y W (.inr (.inr (.inr (.inr g5))))
  exact Dr.longest_in p more name a b c d n x y W (Dr.dt h) g1 g2 g3 g4 g5
end Go.Proofs.Ytdfaoafeojoceaa.Pure
