/- NetPlays: walked whole. -/
import Derived.Test.YtbcgeajnmnnbhaaNetPly
set_option linter.unusedSimpArgs false
set_option linter.unusedVariables false
namespace Go.Proofs.Ytbcgeajnmnnbhaa.Nt
open Go.RowKit Go.Maps Go.Proofs.Ytbcgeajnmnnbhaa.PAll Go.Proofs.YtbcgeajnmnnbhaaW.PrintWords
attribute [local go_sem] put_fresh

set_option maxRecDepth 100000 in
set_option maxHeartbeats 4000000 in
theorem NetPlays_out (zero : Bool) (A : Option Addr) (c : Nat) (l : List Sop) (W : World) (hl : 150 < l.length) :
    Calls Try.prog 6 #[.bool zero, .slice A l.length c] W fun e w' => e = .returned (.bool true) ∧ Below W.heap.size W w' := by
  have hd : decide ((150 : Int) < (l.length : Int)) = true := decide_eq_true (by omega)
  have hd' : decide (150 < l.length) = true := decide_eq_true hl
  go_enter Try.func6, Try.ntmps6
  go_wp2_with fail
  refine (alive_c _).mono ?_
  rintro e w1 ⟨rfl, hb1⟩
  have HB := Aside0.mk hb1
  clear hb1
  go_wp2
  go_ret
  exact ⟨rfl, HB.out⟩
theorem NetPlays_walk (zero : Bool) (A : Option Addr) (c : Nat) (l : List Sop) (W : World) (hr : Kd.C RoS.k48 W A l.length l) (hc : l.length ≤ c) (hok : ∀ x ∈ l, OpOk x) :
    Calls Try.prog 6 #[.bool zero, .slice A l.length c] W fun e w' => e = .returned (.bool true) ∧ Below W.heap.size W w' := by
  by_cases h : 150 < l.length
  · exact NetPlays_out zero A c l W h
  · exact NetPlays_in zero A c l W hr hc (by omega) hok
end Go.Proofs.Ytbcgeajnmnnbhaa.Nt
