/- DotBack: an actor's number is told back, a dot's bytes too; the order of the bytes is that of the dots. -/
import Derived.Test.YthljboogcjpgiaaPAllx12
import Derived.Test.YthljboogcjpgiaaPAllx8
import Derived.Test.YthljboogcjpgiaaDot0
set_option linter.unusedSimpArgs false
set_option linter.unusedVariables false
namespace Go.Proofs.Ythljboogcjpgiaa.Pure
open Go.RowKit Go.Proofs.Ythljboogcjpgiaa.PAll Go.Proofs.YthljboogcjpgiaaW.PrintWords Go.Proofs.YthljboogcjpgiaaW.PrintMore Go.Proofs.Ythljboogcjpgiaa.Pb

theorem DotBack_pure (id : Int) {a b c d n a' b' c' d' n' : Int} (h : Dt a b c d n) (h' : Dt a' b' c' d' n') : ∃ k, cornucopialaw18_DotBack.f k id a b c d n a' b' c' d' n' = some true := by
  refine Ev.rounds ?_
  unfold cornucopialaw18_DotBack.f
  refine Ev.bind (Bytes_ev h) (Ev.bind (dotParse_any h) ?_)
  by_cases hn : n = 0
  · rw [if_pos hn]
    exact Ev.iteT hn (Ev.bindC alive_eq (Ev.iteT rfl (Ev.iteT rfl (Ev.now _))))
  rw [if_neg hn]
  refine Ev.iteF hn (Ev.bindC alive_eq (Ev.iteT rfl (Ev.iteT rfl (Ev.iteT (by simp) (Ev.bindC (Actor_eq id) ?_)))))
  refine Ev.bindC (Id_eq (by dsimp only; omega) (by dsimp only; omega) (by dsimp only; omega) (by dsimp only; omega)) (Ev.iteT (idn_actor id) ?_)
  refine Ev.bind (Bytes_ev h) (Ev.bind (Bytes_ev h') ?_)
  refine Ev.bindC (show dot_Compare.f a b c d n a' b' c' d' n' = some (cmpd a b c d n a' b' c' d' n') from rfl) ?_
  have hc := cmpd_eq h h'
  refine Ev.iteT ?_ (Ev.bindC (show dot_Compare.f a b c d n a' b' c' d' n' = some (cmpd a b c d n a' b' c' d' n') from rfl) (Ev.iteT ?_ (Ev.bindC (Id_eq h.a h.b h.c h.d) (Ev.bindC (Actor_eq _) ?_))))
  · rw [less_eq, ls_ba, ls_ba, beq_iff_eq, hc]
    refine decide_eq_decide.2 ?_
    rw [db_lt h h']
    split
    · simp [*]
    · split <;> simp [*]
  · rw [beq_iff_eq, hc, Bool.eq_iff_iff]
    simp only [Bool.and_eq_true, beq_iff_eq]
    constructor
    · intro e
      have e2 : rkn a b c d n = rkn a' b' c' d' n' := by
        split at e
        · simp at e
        · split at e
          · simp at e
          · omega
      obtain ⟨rfl, rfl, rfl, rfl, rfl⟩ := rkn_inj h h' e2
      exact ⟨⟨rfl, rfl, rfl, rfl⟩, rfl⟩
    · rintro ⟨⟨rfl, rfl, rfl, rfl⟩, rfl⟩
      simp
  · have := h.a; have := h.b; have := h.c; have := h.d
    have e0 : (idn a b c d % 4294967296) / 16777216 = a := by unfold idn; omega
    have e1 : ((idn a b c d % 4294967296) / 65536) % 256 = b := by unfold idn; omega
    have e2 : ((idn a b c d % 4294967296) / 256) % 256 = c := by unfold idn; omega
    have e3 : (idn a b c d) % 256 = d := by unfold idn; omega
    rw [e0, e1, e2, e3]
    simp only [beq_self_eq_true, Bool.and_self]
    exact Ev.now _
end Go.Proofs.Ythljboogcjpgiaa.Pure
