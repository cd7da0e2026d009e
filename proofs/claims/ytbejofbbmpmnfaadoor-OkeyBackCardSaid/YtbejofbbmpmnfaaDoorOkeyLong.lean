/- OkeyLong: a text is as long as it is, one more for each byte 0, and two. -/
import Derived.Test.YtbejofbbmpmnfaaDoorPAllx5
import Derived.Test.YtbejofbbmpmnfaaDoorPAllx7
import Derived.Test.YtbejofbbmpmnfaaDoorOkey0
set_option linter.unusedSimpArgs false
set_option linter.unusedVariables false
namespace Go.Proofs.YtbejofbbmpmnfaaDoor.Pure
open Go.RowKit Go.Proofs.YtbejofbbmpmnfaaDoor.PAll Go.Proofs.YtbejofbbmpmnfaaDoorW.PrintWords Go.Proofs.YtbejofbbmpmnfaaDoorW.PrintMore Go.Proofs.YtbejofbbmpmnfaaDoor.Pb

theorem alive_ev : Ev (fun k => cornucopialaw2_alive.f k) true := Ev.of (fun k => cornucopialaw2_alive.mono k) (k := 300) (by decide +kernel)
theorem long_l0 (s : ByteArray) (hs : s.size ≤ 3000) : ∀ (m i n : Nat), i + m = s.size → n + ((ls s).drop i).count 0 = (tx (ls s)).length → Ev (fun k => cornucopialaw2_OkeyLong.l0 k s (n : Int) (i : Int)) true
  | 0, i, n, hi, hn => by
    have hd : (ls s).drop i = [] := List.drop_eq_nil_of_le (by rw [ls_length]; omega)
    rw [hd, List.count_nil, Nat.add_zero] at hn
    refine Ev.step (fun k => if_neg (by omega)) ?_
    refine Ev.bind alive_ev (Ev.iteT rfl (Ev.bindC (Text_eq s (by omega)) (Ev.iteT (by rw [size_ba]; omega) ?_)))
    refine Ev.bind (Num_ev 7 (by omega)) (Ev.iteT (by rw [size_ba, be_length]; rfl) ?_)
    refine Ev.bind (Int_ev (-7) (by omega) (by omega)) ?_
    rw [show ((((ba (be 8 (up (-7)))).size : Nat) : Int) == 8) = true by rw [size_ba, be_length]; rfl]
    exact Ev.now _
  | m + 1, i, n, hi, hn => by
    have hl : (tx (ls s)).length ≤ 6002 := by
      have := tx_length (ls s)
      have h2 : (ls s).count 0 ≤ (ls s).length := List.count_le_length
      rw [ls_length] at *
      omega
    have hd := drop_cons 0 (ls s) i (by rw [ls_length]; omega)
    have e1 : wrap64 ((i : Int) + 1) = ((i + 1 : Nat) : Int) := by rw [wrap64_id (by omega) (by omega)]; omega
    have e2 : wrap64 ((n : Int) + 1) = ((n + 1 : Nat) : Int) := by rw [wrap64_id (by omega) (by omega)]; omega
    have hb : bt s (i : Int) = (((ls s).getD i 0).toNat : Int) := bt_ls s _
    rw [hd, List.count_cons] at hn
    by_cases c : (ls s).getD i 0 = 0
    · rw [c] at hn hb
      refine Ev.step (fun k => (if_pos (by omega)).trans ((if_pos (by omega)).trans (if_pos hb))) ?_
      rw [e1, e2]
      exact long_l0 s hs m (i + 1) (n + 1) (by omega) (by simp at hn; omega)
    · have hne : ¬ bt s (i : Int) = 0 := by
        rw [hb]
        intro h
        exact c (UInt8.toNat_inj.1 (by rw [show (0 : UInt8).toNat = 0 from rfl]; omega))
      rw [show ((ls s).getD i 0 == 0) = false from beq_eq_false_iff_ne.2 c] at hn
      refine Ev.step (fun k => (if_pos (by omega)).trans ((if_pos (by omega)).trans (if_neg hne))) ?_
      rw [e1]
      exact long_l0 s hs m (i + 1) n (by omega) (by simp at hn; omega)
theorem OkeyLong_pure (s : ByteArray) (hz : s.size ≤ 140737488355328) : ∃ k, cornucopialaw2_OkeyLong.f k s = some true := by
  refine Ev.rounds ?_
  unfold cornucopialaw2_OkeyLong.f
  by_cases c : (s.size : Int) > 3000
  · exact Ev.iteT c (Ev.bind alive_ev (Ev.now _))
  · refine Ev.iteF c ?_
    rw [show wrap64 ((s.size : Int) + 2) = ((s.size + 2 : Nat) : Int) by rw [wrap64_id (by omega) (by omega)]; omega]
    exact long_l0 s (by omega) s.size 0 (s.size + 2) (by omega) (by rw [tx_length, List.drop_zero, ls_length]; omega)
end Go.Proofs.YtbejofbbmpmnfaaDoor.Pure
