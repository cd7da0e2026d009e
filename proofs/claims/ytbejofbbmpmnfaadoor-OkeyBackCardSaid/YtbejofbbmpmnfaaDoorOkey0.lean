/- The words of okey in plain words: what the printed Text, Num, Int answer. -/
import Derived.Test.YtbejofbbmpmnfaaDoorPAllx1
import Derived.Test.YtbejofbbmpmnfaaDoorPAllx2
import Derived.Test.YtbejofbbmpmnfaaDoorNum0
set_option linter.unusedSimpArgs false
set_option linter.unusedVariables false
namespace Go.Proofs.YtbejofbbmpmnfaaDoor.Pure
open Go.RowKit Go.Proofs.YtbejofbbmpmnfaaDoor.PAll Go.Proofs.YtbejofbbmpmnfaaDoorW.PrintWords Go.Proofs.YtbejofbbmpmnfaaDoorW.PrintMore Go.Proofs.YtbejofbbmpmnfaaDoor.Pb

/-- A text's bytes. -/
def tx (l : List UInt8) : List UInt8 := rep0 l ++ [0, 1]
theorem tx_length (l : List UInt8) : (tx l).length = l.length + l.count 0 + 2 := by simp [tx, rep0_length]
theorem Text_eq (s : ByteArray) (hs : s.size ≤ 2000000000) : okey_Text.f s = some (ba (tx (ls s))) := by
  have h1 : strings_Replace.f s ⟨#[0]⟩ ⟨#[0, 255]⟩ (-1) = some (ba (rep0 (ls s))) := if_pos ⟨hs, rfl, rfl, rfl⟩
  have h2 : (ba (rep0 (ls s))).size + 2 ≤ 9223372036854775807 := by
    have : (ls s).count 0 ≤ (ls s).length := List.count_le_length
    rw [size_ba, rep0_length]
    rw [ls_length] at *
    omega
  unfold okey_Text.f strings_ReplaceAll.f
  rw [h1]
  show (if (ba (rep0 (ls s))).size + 2 ≤ 9223372036854775807 then some (ba (rep0 (ls s)) ++ (⟨#[0, 1]⟩ : ByteArray)) else none) = _
  rw [if_pos h2]
  exact congrArg some (ls_inj (by simp [tx, ls_mk]))
theorem Num_ev (v : Nat) (hv : v < 18446744073709551616) : Ev (fun k => okey_Num.f k (v : Int)) (ba (be 8 v)) :=
  Ev.bind (Fix_ev v 8 (by omega) (by omega) hv) (Ev.now _)
theorem xor_top (n : Nat) (h : n < 2 ^ 63) : n ^^^ 2 ^ 63 = 2 ^ 63 + n := by
  apply Nat.eq_of_testBit_eq
  intro i
  rw [Nat.testBit_xor, Nat.testBit_two_pow]
  rcases Nat.lt_trichotomy i 63 with c | c | c
  · rw [Nat.testBit_two_pow_add_gt c]
    simp [show ¬ 63 = i by omega]
  · subst c
    rw [Nat.testBit_two_pow_add_eq]
    simp [Nat.testBit_lt_two_pow h]
  · have h64 : 2 ^ 64 ≤ 2 ^ i := Nat.pow_le_pow_right (by omega) (by omega)
    rw [Nat.testBit_lt_two_pow (x := n) (by omega), Nat.testBit_lt_two_pow (x := 2 ^ 63 + n) (by omega)]
    simp [show ¬ 63 = i by omega]
theorem xor_top' (n : Nat) (h : n < 2 ^ 63) : (2 ^ 63 + n) ^^^ 2 ^ 63 = n := by
  rw [← xor_top n h, Nat.xor_assoc, Nat.xor_self, Nat.xor_zero]
/-- A whole number with a sign, laid without one. -/
def up (i : Int) : Nat := (i + 9223372036854775808).toNat
theorem Int_ev (i : Int) (h1 : -9223372036854775808 ≤ i) (h2 : i ≤ 9223372036854775807) : Ev (fun k => okey_Int.f k i) (ba (be 8 (up i))) := by
  have e : Go.bits .xor .u64 (IntKind.u64.wrap i) 9223372036854775808 = ((up i : Nat) : Int) := by
    by_cases c : 0 ≤ i
    · obtain ⟨n, rfl⟩ := Int.eq_ofNat_of_zero_le c
      rw [u64_id (by omega) (by omega)]
      have := u64_xor_nat n (2 ^ 63) (by omega) (by omega)
      rw [xor_top n (by omega)] at this
      refine this.trans ?_
      unfold up
      omega
    · obtain ⟨n, hn⟩ : ∃ n : Nat, IntKind.u64.wrap i = ((2 ^ 63 + n : Nat) : Int) ∧ n = up i ∧ n < 2 ^ 63 := ⟨up i, by rw [IntKind.wrap_u64]; unfold up; omega, rfl, by unfold up; omega⟩
      rw [hn.1]
      have := u64_xor_nat (2 ^ 63 + n) (2 ^ 63) (by omega) (by omega)
      rw [xor_top' n hn.2.2] at this
      rw [← hn.2.1]
      exact this
  unfold okey_Int.f
  rw [e]
  exact Ev.bind (Num_ev (up i) (by unfold up; omega)) (Ev.now _)
end Go.Proofs.YtbejofbbmpmnfaaDoor.Pure
