-- Printed by a program of this session (wip/drive.py, over the kit's print.py with its own changes). Lean checks it.
import Derived.Test.YthljboogcjpgiaaPAllx0
namespace Go.Proofs.Ythljboogcjpgiaa.PAll
open Go.RowKit Go.Proofs.YthljboogcjpgiaaW.PrintWords Go.Proofs.YthljboogcjpgiaaW.PrintLast Go.Proofs.YthljboogcjpgiaaW.PrintMore
attribute [local go_sem] max2_int min2_int max_two min_two max_three min_three max_four min_four   -- for this text's walks alone
set_option linter.unusedVariables false
set_option linter.unusedSimpArgs false

theorem eqA23 (d : Nat) (w : World) (x0 y0 : Int) (x1 y1 : Int) (x2 y2 : Int) (x3 y3 : Int) :
    (Op.equalIn (d + 2) 23 (.agg #[.int .u8 x0, .int .u8 x1, .int .u8 x2, .int .u8 x3]) (.agg #[.int .u8 y0, .int .u8 y1, .int .u8 y2, .int .u8 y3])).run Try.prog w = .ok (x0 == y0 && (x1 == y1 && (x2 == y2 && (x3 == y3)))) w := by
  have hc_ : Try.prog.cellsOf 5 = 1 := by kernel_rfl
  obtain ⟨i_, hi_⟩ := info_of_underlying Try.underlying5
  rw [run_equalIn_array w (d + 1) _ _ Try.underlying23 hi_, hc_]
  show (Op.eqItems (d + 1) 5 1 _ _ [0, 1, 2, 3]).run _ _ = _
  simp only [Op.eqItems]
  go_simp
  by_cases h0 : x0 = y0 <;> by_cases h1 : x1 = y1 <;> by_cases h2 : x2 = y2 <;> by_cases h3 : x3 = y3 <;> simp [h0, h1, h2, h3]
end Go.Proofs.Ythljboogcjpgiaa.PAll
