/- Clear: walked. -/
import Derived.Test.YtbcgeajnmnnbhaaNetMov
set_option linter.unusedSimpArgs false
set_option linter.unusedVariables false
namespace Go.Proofs.Ytbcgeajnmnnbhaa.Nt
open Go.RowKit Go.Maps Go.Proofs.Ytbcgeajnmnnbhaa.PAll Go.Proofs.YtbcgeajnmnnbhaaW.PrintWords
attribute [local go_sem] put_fresh
attribute [-go_sem] Builtin.append_

set_option maxRecDepth 100000 in
set_option maxHeartbeats 4000000 in
theorem clear_c {W : World} {base B n : Nat} {m : Value} {C : Int → Int → Bool} {L : List Pk} (hN : NetAt W base B m L) (hC : CutAt W B m n C) :
    Calls Try.prog 19 #[.pointer (some ⟨B, 0, none⟩)] W fun e W' => e = .returned (.int .i64 L.length) ∧ NetAt W' base B m [] ∧ CutAt W' B m n C ∧ Kp W W' B ∧ Below base W W' := by
  have HL := Aside0.mk (len_c hN)
  obtain ⟨p, c, hB, hr⟩ := net_v hN
  have e0 : W.cell? ⟨B, 0, none⟩ = some (.slice p L.length c) := blk_cell hB 0
  have e1 : W.frozen? ⟨B, 0, none⟩ = false := blk_frozen hB 0
  have HA := Aside0.mk (And.intro hN (And.intro hC (And.intro hB hr)))
  clear hN hC hB hr
  by_cases h : 0 < L.length
  · have hd : decide ((0 : Int) < (L.length : Int)) = true := decide_eq_true (by omega)
    have hd' : decide (0 < L.length) = true := decide_eq_true h
    go_enter Try.func19, Try.ntmps19
    go_wp2_with (go_at_call 15; refine HL.out.mono ?_; rintro e w' ⟨rfl, hww⟩; subst w')
    go_ret
    obtain ⟨hN, hC, hB, hr⟩ := HA.out
    have hX := net_put (L' := []) (p' := none) (c' := 0) (w6 := W) hN hB hr hC (Below.refl _ _) (World.ownsRow_nil _ _ _ _) ⟨rfl, rfl, rfl, Nat.le_refl _, fun _ _ _ => rfl⟩ (fun j hj => by cases hj)
    exact ⟨rfl, hX⟩
  · have hd : decide ((0 : Int) < (L.length : Int)) = false := decide_eq_false (by omega)
    have hd' : decide (0 < L.length) = false := decide_eq_false h
    have hl0 : L = [] := List.length_eq_zero_iff.1 (by omega)
    go_enter Try.func19, Try.ntmps19
    go_wp2_with (go_at_call 15; refine HL.out.mono ?_; rintro e w' ⟨rfl, hww⟩; subst w')
    go_ret
    obtain ⟨hN, hC, hB, hr⟩ := HA.out
    subst hl0
    exact ⟨rfl, hN, hC, Kp.refl _ _, Below.refl _ _⟩
end Go.Proofs.Ytbcgeajnmnnbhaa.Nt
