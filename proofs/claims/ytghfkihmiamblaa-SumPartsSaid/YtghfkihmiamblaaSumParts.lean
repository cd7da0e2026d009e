/- SumParts: a sum of parts is that of all of them together, however they are cut (plain words; the walk stands in the printed text). -/
import Derived.Test.YtghfkihmiamblaaPAllx3
import Derived.Test.YtghfkihmiamblaaPAllx9
import Derived.Test.YtghfkihmiamblaaSumBack
set_option linter.unusedSimpArgs false
set_option linter.unusedVariables false
namespace Go.Proofs.Ytghfkihmiamblaa.Pure
open Go.RowKit Go.Proofs.Ytghfkihmiamblaa.PAll Go.Proofs.YtghfkihmiamblaaW.PrintWords Go.Proofs.YtghfkihmiamblaaW.PrintMore Go.Proofs.Ytghfkihmiamblaa.Pb

theorem size_extract_le (s : ByteArray) (i j : Nat) : (s.extract i j).size ≤ s.size := by
  rw [← ls_length, ls_extract, List.length_drop, List.length_take, ls_length]; omega
theorem parts_alive (s : ByteArray) (a b : Int) : Ev (fun k => cornucopialaw3_SumParts.j0 k s a b true) true :=
  Ev.step (fun k => (cornucopialaw3_SumParts.j0.eq_2 _ _ _ _ _).trans (if_pos rfl)) (Ev.bind alive_ev (Ev.now _))
theorem one_frame (s : ByteArray) (h : s.size ≤ 3000) : Ev (fun k => sum_Frame.f k [s]) (ba (frame s)) := by
  have e : frames [s] = frame s := by simp
  rw [← e]
  exact Frame_ev [s] (fun x hx => by simp at hx; subst hx; omega) (by rw [e, frame_length]; omega)
theorem parts_main (s : ByteArray) (a b : Nat) (hs : s.size ≤ 3000) (hab : a ≤ b) (hb : b ≤ s.size) : Ev (fun k => cornucopialaw3_SumParts.j0 k s (a : Int) (b : Int) false) true := by
  have l1 := size_extract_le s 0 a
  have l2 := size_extract_le s a s.size
  have l3 := size_extract_le s a b
  have l4 := size_extract_le s b s.size
  refine Ev.step (fun k => (cornucopialaw3_SumParts.j0.eq_2 _ _ _ _ _).trans (if_neg (by simp))) (Ev.bind alive_ev ?_)
  refine Ev.iteT rfl (Ev.iteT (by omega) (Ev.iteT (by omega) (Ev.iteT (by omega) (Ev.iteT (by omega) (Ev.iteT (by omega) ?_)))))
  simp only [Int.toNat_natCast]
  refine Ev.bind (Crc_ev _ (by simp) ?_) (Ev.bind (Crc_ev _ (by simp) ?_) (Ev.iteT ?_ (Ev.bind (Crc_ev _ (by simp) (by simp)) (Ev.bind (Crc_ev _ (by simp) ?_) (Ev.iteT ?_ ?_)))))
  · intro x hx
    simp only [List.mem_cons, List.not_mem_nil, or_false] at hx
    rcases hx with rfl | rfl | rfl <;> omega
  · intro x hx
    simp only [List.mem_cons, List.not_mem_nil, or_false] at hx
    subst hx; omega
  · have e : cat [s.extract 0 a, s.extract a b, s.extract b s.size] = cat [s] := by
      simp only [cat, List.flatMap_cons, List.flatMap_nil, List.append_nil, ls_extract, List.drop_zero]
      rw [List.take_of_length_le (l := ls s) (i := s.size) (by rw [ls_length]; exact Nat.le_refl _), List.drop_take, ← List.append_assoc]
      have h1 : (ls s).take a ++ ((ls s).drop a).take (b - a) = (ls s).take b := by
        have := List.take_add (l := ls s) (i := a) (j := b - a)
        rw [show a + (b - a) = b by omega] at this
        exact this.symm
      rw [h1, List.take_append_drop]
    rw [e]
  · intro x hx
    simp only [List.mem_cons, List.not_mem_nil, or_false] at hx
    rcases hx with rfl | rfl <;> (show 0 ≤ _; omega)
  · rfl
  · refine Ev.bind (one_frame _ (by omega)) (Ev.bind (one_frame _ (by omega)) (Ev.iteT (by rw [size_ba, size_ba, frame_length, frame_length]; omega) ?_))
    have e : frames [s.extract 0 a, s.extract a s.size] = frame (s.extract 0 a) ++ frame (s.extract a s.size) := by simp
    refine Ev.bind (Frame_ev [s.extract 0 a, s.extract a s.size] (fun x hx => ?_) (by rw [e, List.length_append, frame_length, frame_length]; omega)) ?_
    · simp only [List.mem_cons, List.not_mem_nil, or_false] at hx
      rcases hx with rfl | rfl <;> omega
    · rw [e, ba_append]
      simp only [beq_self_eq_true]
      exact Ev.now _
theorem SumParts_pure (s : ByteArray) (a b : Int) (hsz : s.size ≤ 140737488355328) : ∃ k, cornucopialaw3_SumParts.f k s a b = some true := by
  refine Ev.rounds (g := fun k => cornucopialaw3_SumParts.f k s a b) ?_
  unfold cornucopialaw3_SumParts.f
  by_cases c1 : (s.size : Int) > 3000
  · exact Ev.iteT c1 (parts_alive s a b)
  refine Ev.iteF c1 ?_
  by_cases c2 : a < 0
  · exact Ev.iteT c2 (parts_alive s a b)
  refine Ev.iteF c2 ?_
  by_cases c3 : b < a
  · exact Ev.iteT c3 (parts_alive s a b)
  refine Ev.iteF c3 ?_
  by_cases c4 : b > (s.size : Int)
  · rw [decide_eq_true c4]
    exact parts_alive s a b
  rw [decide_eq_false c4]
  obtain ⟨m, rfl⟩ := Int.eq_ofNat_of_zero_le (show 0 ≤ a by omega)
  obtain ⟨n, rfl⟩ := Int.eq_ofNat_of_zero_le (show 0 ≤ b by omega)
  exact parts_main s m n (by omega) (by omega) (by omega)
end Go.Proofs.Ytghfkihmiamblaa.Pure
