/- The law's first call. -/
import Derived.Test.YtdigpaniganndaaDoorPAllx12
import Derived.Test.YtdigpaniganndaaDoorLay0
set_option linter.unusedSimpArgs false
set_option linter.unusedVariables false
namespace Go.Proofs.YtdigpaniganndaaDoor.Pure
open Go.RowKit Go.Proofs.YtdigpaniganndaaDoor.PAll Go.Proofs.YtdigpaniganndaaDoorW.PrintWords Go.Proofs.YtdigpaniganndaaDoorW.PrintMore Go.Proofs.YtdigpaniganndaaDoor.Pb

theorem alive_ev : Ev (fun k => cornucopialaw21_alive.f k) true := Ev.of (fun k => cornucopialaw21_alive.mono k) (k := 300) (by decide +kernel)
theorem wf8 {n : Int} (h : (Lit.int .u8 n).wf = true) : 0 ≤ n ∧ n < 256 := by
  simp only [Lit.wf, IntKind.min, IntKind.max, IntKind.signed, IntKind.bits, Bool.and_eq_true, decide_eq_true_eq] at h
  simp at h
  omega
theorem wf64 {n : Int} (h : (Lit.int .u64 n).wf = true) : 0 ≤ n ∧ n < 18446744073709551616 := by
  simp only [Lit.wf, IntKind.min, IntKind.max, IntKind.signed, IntKind.bits, Bool.and_eq_true, decide_eq_true_eq] at h
  simp at h
  omega
theorem dt {a b c d n : Int} (h : ((Lit.int .u8 a).wf = true ∧ (Lit.int .u8 b).wf = true ∧ (Lit.int .u8 c).wf = true ∧ (Lit.int .u8 d).wf = true) ∧ (Lit.int .u64 n).wf = true) : Dt a b c d n :=
  ⟨wf8 h.1.1, wf8 h.1.2.1, wf8 h.1.2.2.1, wf8 h.1.2.2.2, wf64 h.2⟩
end Go.Proofs.YtdigpaniganndaaDoor.Pure
