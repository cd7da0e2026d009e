/- NetMoves: walked whole. -/
import Derived.Test.YtbcgeajnmnnbhaaNetMvs
set_option linter.unusedSimpArgs false
set_option linter.unusedVariables false
namespace Go.Proofs.Ytbcgeajnmnnbhaa.Nt
open Go.RowKit Go.Maps Go.Proofs.Ytbcgeajnmnnbhaa.PAll Go.Proofs.YtbcgeajnmnnbhaaW.PrintWords
attribute [local go_sem] put_fresh

set_option maxRecDepth 100000 in
set_option maxHeartbeats 4000000 in
theorem NetMoves_out (n k z a b : Int) (h : n < 1 ∨ (¬ n < 1 ∧ 40 < n) ∨ (¬ n < 1 ∧ ¬ 40 < n ∧ k < 0) ∨ (¬ n < 1 ∧ ¬ 40 < n ∧ ¬ k < 0 ∧ n ≤ k) ∨ (¬ n < 1 ∧ ¬ 40 < n ∧ ¬ k < 0 ∧ ¬ n ≤ k ∧ z < 0) ∨ (¬ n < 1 ∧ ¬ 40 < n ∧ ¬ k < 0 ∧ ¬ n ≤ k ∧ ¬ z < 0 ∧ n ≤ z)) (W : World) : Calls Try.prog 3 #[.int .i64 n, .int .i64 k, .int .i64 z, .int .i64 a, .int .i64 b] W fun e W' => e = .returned (.bool true) ∧ Below W.heap.size W W' := by
  rcases h with c1 | ⟨c1, c2⟩ | ⟨c1, c2, c3⟩ | ⟨c1, c2, c3, c4⟩ | ⟨c1, c2, c3, c4, c5⟩ | ⟨c1, c2, c3, c4, c5, c6⟩
  all_goals
    go_enter Try.func3, Try.ntmps3
    go_wp2_with fail
    refine (alive_c _).mono ?_
    rintro e w1 ⟨rfl, hb1⟩
    have HB := Aside0.mk hb1
    clear hb1
    go_wp2
    go_ret
    exact ⟨rfl, HB.out⟩
theorem NetMoves_walk (n k z a b : Int) (ha : I64 a) (hb : I64 b) (W : World) : Calls Try.prog 3 #[.int .i64 n, .int .i64 k, .int .i64 z, .int .i64 a, .int .i64 b] W fun e W' => e = .returned (.bool true) ∧ Below W.heap.size W W' := by
  by_cases h : 1 ≤ n ∧ n ≤ 40 ∧ 0 ≤ k ∧ k < n ∧ 0 ≤ z ∧ z < n
  · obtain ⟨h1, h2, h3, h4, h5, h6⟩ := h
    obtain ⟨n, rfl⟩ := Int.eq_ofNat_of_zero_le (show 0 ≤ n by omega)
    obtain ⟨k, rfl⟩ := Int.eq_ofNat_of_zero_le h3
    obtain ⟨z, rfl⟩ := Int.eq_ofNat_of_zero_le h5
    exact NetMoves_in n k z a b ha hb (by omega) (by omega) (by omega) (by omega) W
  · exact NetMoves_out n k z a b (by omega) W
end Go.Proofs.Ytbcgeajnmnnbhaa.Nt
