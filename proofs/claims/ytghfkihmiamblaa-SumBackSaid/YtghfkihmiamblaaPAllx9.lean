-- Printed by a program of this session (wip/drive.py, over the kit's print.py with its own changes). Lean checks it.
import Derived.Test.YtghfkihmiamblaaPAllx0
namespace Go.Proofs.Ytghfkihmiamblaa.PAll
open Go.RowKit Go.Proofs.YtghfkihmiamblaaW.PrintWords Go.Proofs.YtghfkihmiamblaaW.PrintLast Go.Proofs.YtghfkihmiamblaaW.PrintMore
attribute [local go_sem] max2_int min2_int max_two min_two max_three min_three max_four min_four   -- for this text's walks alone
set_option linter.unusedVariables false
set_option linter.unusedSimpArgs false

-- NOT PRINTED: function 4 (cornucopialaw3_SumChanged)

-- NOT PRINTED: function 5 (cornucopialaw3_SumParts)

end Go.Proofs.Ytghfkihmiamblaa.PAll
