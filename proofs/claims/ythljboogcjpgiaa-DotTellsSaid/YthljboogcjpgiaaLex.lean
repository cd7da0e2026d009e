/- The order of bytes, in plain words. -/
import Derived.Test.YthljboogcjpgiaaPb
import Derived.Sort.Walk0
set_option linter.unusedSimpArgs false
set_option linter.unusedVariables false
namespace Go.Proofs.Ythljboogcjpgiaa.Pure
open Go.RowKit Go.Proofs.YthljboogcjpgiaaW.PrintWords Go.Proofs.YthljboogcjpgiaaW.PrintMore Go.Proofs.Ythljboogcjpgiaa.Pb

theorem less_eq (a b : ByteArray) : Op.bytesLess a.toList b.toList = decide (ls a < ls b) := by
  rw [Go.Proofs.bytesLess_eq, toList_ls, toList_ls]
theorem lt_cons {a b : UInt8} {x y : List UInt8} : a :: x < b :: y ↔ a < b ∨ a = b ∧ x < y := List.cons_lt_cons_iff
theorem u8_tri (a b : UInt8) : a < b ∨ a = b ∨ b < a := by
  rcases Nat.lt_trichotomy a.toNat b.toNat with h | h | h
  · exact .inl (UInt8.lt_iff_toNat_lt.2 h)
  · exact .inr (.inl (UInt8.toNat_inj.1 h))
  · exact .inr (.inr (UInt8.lt_iff_toNat_lt.2 h))
theorem u8_irr (a : UInt8) : ¬ a < a := fun h => Nat.lt_irrefl _ (UInt8.lt_iff_toNat_lt.1 h)
theorem u8_asym {a b : UInt8} (h : a < b) : ¬ b < a := fun h2 => Nat.lt_asymm (UInt8.lt_iff_toNat_lt.1 h) (UInt8.lt_iff_toNat_lt.1 h2)
theorem lt_irr : ∀ l : List UInt8, ¬ l < l
  | [], h => by cases h
  | a :: l, h => (lt_cons.1 h).elim (u8_irr a) fun h => lt_irr l h.2
theorem app_lt : ∀ (p a b : List UInt8), p ++ a < p ++ b ↔ a < b
  | [], a, b => Iff.rfl
  | c :: p, a, b => by
    rw [List.cons_append, List.cons_append, lt_cons]
    exact ⟨fun h => h.elim (fun h => absurd h (u8_irr c)) fun h => (app_lt p a b).1 h.2, fun h => .inr ⟨rfl, (app_lt p a b).2 h⟩⟩
theorem nil_lt (c : UInt8) (l : List UInt8) : [] < c :: l := List.nil_lt_cons c l
theorem not_lt_nil (l : List UInt8) : ¬ l < [] := List.not_lt_nil l
end Go.Proofs.Ythljboogcjpgiaa.Pure
