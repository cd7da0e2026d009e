/- NetNone: walked. -/
import Derived.Test.YtbcgeajnmnnbhaaNetLiv
set_option linter.unusedSimpArgs false
set_option linter.unusedVariables false
namespace Go.Proofs.Ytbcgeajnmnnbhaa.Nt
open Go.RowKit Go.Maps Go.Proofs.Ytbcgeajnmnnbhaa.PAll Go.Proofs.YtbcgeajnmnnbhaaW.PrintWords
attribute [local go_sem] put_fresh
attribute [-go_sem] Builtin.append_

set_option maxRecDepth 100000 in
set_option maxHeartbeats 8000000 in
theorem NetNone_walk (k : Int) (W : World) : Calls Try.prog 7 #[.int .i64 k] W fun e W' => e = .returned (.bool true) ∧ Below W.heap.size W W' := by
  go_enter Try.func7, Try.ntmps7
  go_wp2_with fail
  refine (pull_nil _ _).mono ?_
  rintro e w1 ⟨rfl, hb1⟩
  have h1 := below_step (Below.refl W.heap.size W) hb1
  have H1 := Aside0.mk (below_alloc h1 (.cells (#[.int .i64 0, .int .i64 0, .string ByteArray.empty] : Array Value) 27))
  clear hb1 h1
  unfold noPk
  go_wp2_with fail
  refine (peek_nil _ _).mono ?_
  rintro e w2 ⟨rfl, hb2⟩
  have H2 := Aside0.mk (below_alloc (below_step H1.out hb2) (.cells (#[.int .i64 0, .int .i64 0, .string ByteArray.empty] : Array Value) 27))
  clear hb2
  unfold noPk
  go_wp2_with fail
  refine (cut_nil _ _ _ _).mono ?_
  rintro e w' ⟨rfl, hww⟩
  subst w'
  go_wp2_with fail
  refine (alive_c _).mono ?_
  rintro e w3 ⟨rfl, hb3⟩
  have H3 := Aside0.mk (below_step H2.out hb3)
  clear hb3
  go_wp2_with fail
  refine (send_nil _ _).mono ?_
  rintro e w' ⟨rfl, hww⟩
  subst w'
  go_wp2_with fail
  refine (len_nil _).mono ?_
  rintro e w' ⟨rfl, hww⟩
  subst w'
  go_wp2_with fail
  refine (clear_nil _).mono ?_
  rintro e w' ⟨rfl, hww⟩
  subst w'
  go_wp2_with fail
  refine (drop_nil _ _).mono ?_
  rintro e w4 ⟨rfl, hb4⟩
  have H4 := Aside0.mk (below_step (below_alloc H3.out (.cells (#[.int .i64 0, .int .i64 0, .string ByteArray.empty] : Array Value) 27)) hb4)
  clear hb4
  go_wp2_with fail
  refine (double_nil _ _).mono ?_
  rintro e w' ⟨rfl, hww⟩
  subst w'
  go_wp2_with fail
  refine (move_nil _ _ _).mono ?_
  rintro e w' ⟨rfl, hww⟩
  subst w'
  go_wp2_with fail
  refine (spoil_nil _ _ _ _).mono ?_
  rintro e w' ⟨rfl, hww⟩
  subst w'
  go_wp2
  go_ret
  exact ⟨rfl, H4.out⟩
end Go.Proofs.Ytbcgeajnmnnbhaa.Nt
