/- DotTells: the order of every two dots, actors and numbers, and bytes. -/
import Derived.Test.YthljboogcjpgiaaPAllx10
import Derived.Test.YthljboogcjpgiaaPAllx11
import Derived.Test.YthljboogcjpgiaaPAllx4
import Derived.Test.YthljboogcjpgiaaPAllx6
import Derived.Test.YthljboogcjpgiaaPAllx7
import Derived.Test.YthljboogcjpgiaaPAllx8
import Derived.Test.YthljboogcjpgiaaPAllx9
import Derived.Test.YthljboogcjpgiaaDot0
set_option linter.unusedSimpArgs false
set_option linter.unusedVariables false
namespace Go.Proofs.Ythljboogcjpgiaa.Pure
open Go.RowKit Go.Proofs.Ythljboogcjpgiaa.PAll Go.Proofs.YthljboogcjpgiaaW.PrintWords Go.Proofs.YthljboogcjpgiaaW.PrintMore Go.Proofs.Ythljboogcjpgiaa.Pb

theorem runfix_l0 (b : ByteArray) (t n : Nat) (hn : n ≤ 8) (hb : t + n ≤ b.size) (hs : b.size ≤ 9223372036854775807) : ∀ (m i v : Nat), i + m = n → v < 256 ^ i →
    Ev (fun k => cornucopiaref1_Unfix.l0 k b (t : Int) (n : Int) (v : Int) (i : Int)) (((unL v (((ls b).drop (t + i)).take m) : Nat) : Int), 0)
  | 0, i, v, hi, hv => by
    refine Ev.step (fun k => if_neg (by omega)) ?_
    rw [List.take_zero]
    exact Ev.now _
  | m + 1, i, v, hi, hv => by
    have e1 : wrap64 ((t : Int) + (i : Int)) = ((t + i : Nat) : Int) := by rw [wrap64_id (by omega) (by omega)]; omega
    have e4 : wrap64 ((i : Int) + 1) = ((i + 1 : Nat) : Int) := by rw [wrap64_id (by omega) (by omega)]; omega
    have hc := ((ls b).getD (t + i) 0).toNat_lt
    have hv7 : v < 256 ^ 7 := Nat.lt_of_lt_of_le hv (Nat.pow_le_pow_right (by omega) (by omega))
    have e2 : IntKind.u64.wrap ((v : Int) * 256) = ((v * 256 : Nat) : Int) := by rw [u64_id (by omega) (by omega)]; omega
    have e3 : bt b ((t + i : Nat) : Int) = (((ls b).getD (t + i) 0).toNat : Int) := bt_ls b _
    have e5 : IntKind.u64.wrap ((((ls b).getD (t + i) 0).toNat : Nat) : Int) = ((((ls b).getD (t + i) 0).toNat : Nat) : Int) := u64_id (by omega) (by omega)
    have e6 : IntKind.u64.wrap (((v * 256 : Nat) : Int) + ((((ls b).getD (t + i) 0).toNat : Nat) : Int)) = ((v * 256 + ((ls b).getD (t + i) 0).toNat : Nat) : Int) := by rw [u64_id (by omega) (by omega)]; omega
    refine Ev.step (fun k => (if_pos (by omega)).trans ((if_pos (by rw [e1]; omega)).trans (if_pos (by rw [e1]; omega)))) ?_
    rw [e1, e2, e3, e4, e5, e6]
    have h := runfix_l0 b t n hn hb hs m (i + 1) (v * 256 + ((ls b).getD (t + i) 0).toNat) (by omega) (by rw [Nat.pow_succ]; omega)
    rw [drop_cons 0 (ls b) (t + i) (by rw [ls_length]; omega), List.take_succ_cons]
    exact h
theorem RUnfix_ev (b : ByteArray) (t n : Nat) (h1 : 1 ≤ n) (hn : n ≤ 8) (hb : t + n ≤ b.size) (hs : b.size ≤ 9223372036854775807) :
    Ev (fun k => cornucopiaref1_Unfix.f k b (t : Int) (n : Int)) (((unL 0 (((ls b).drop t).take n) : Nat) : Int), 0) := by
  unfold cornucopiaref1_Unfix.f
  refine Ev.iteF (by omega) (Ev.iteF (by omega) ?_)
  rw [show decide ((t : Int) < 0) = false from decide_eq_false (by omega)]
  have e1 : wrap64 ((b.size : Int) - (n : Int)) = (b.size : Int) - (n : Int) := wrap64_id (by omega) (by omega)
  refine Ev.step (fun k => (cornucopiaref1_Unfix.j0.eq_2 _ _ _ _ _).trans ((if_neg (by simp)).trans (if_neg (by omega)))) ?_
  rw [e1, decide_eq_false (by omega : ¬ (t : Int) > (b.size : Int) - (n : Int))]
  refine Ev.step (fun k => (cornucopiaref1_Unfix.j1.eq_2 _ _ _ _ _).trans (if_neg (by simp))) ?_
  have h := runfix_l0 b t n hn hb hs n 0 0 (by omega) (by simp)
  rw [Nat.add_zero] at h
  exact h
theorem dots_same (b : ByteArray) (hb : b.size ≤ 1000000) : ∃ x1 x2 x3 x4 x5 x6 : Int, Ev (fun k => dot_Parse.f k b) (x1, x2, x3, x4, x5, x6) ∧ Ev (fun k => cornucopiaref17_Parse.f k b) (x1, x2, x3, x4, x5, x6) := by
  unfold dot_Parse.f cornucopiaref17_Parse.f
  by_cases c : b.size = 12
  · have hu := Unfix_ev b 4 8 (by omega) (by omega) (by omega) (by omega)
    have hv := RUnfix_ev b 4 8 (by omega) (by omega) (by omega) (by omega)
    generalize unL 0 (((ls b).drop 4).take 8) = n at hu hv
    by_cases cn : n = 0
    · exact ⟨0, 0, 0, 0, 0, 4, Ev.iteT c (Ev.bind hu (Ev.iteF (by show ¬ (n : Int) ≥ 1; omega) (Ev.now _))), Ev.iteT (by omega) (Ev.bind hv (Ev.iteT (by show (n : Int) = 0; omega) (Ev.now _)))⟩
    · exact ⟨bt b 0, bt b 1, bt b 2, bt b 3, n, 0, Ev.iteT c (Ev.bind hu (Ev.iteT (by show (n : Int) ≥ 1; omega) (Ev.now _))), Ev.iteT (by omega) (Ev.bind hv (Ev.iteF (by show ¬ (n : Int) = 0; omega) (Ev.iteT (by omega) (Ev.iteT (by omega) (Ev.iteT (by omega) (Ev.iteT (by omega) (Ev.now _)))))))⟩
  · exact ⟨0, 0, 0, 0, 0, 5, Ev.iteF c (Ev.now _), Ev.iteF (by omega) (Ev.now _)⟩
theorem ben_snoc : ∀ (n v : Nat), ben (n + 1) v = ben n (v / 256) ++ [v % 256]
  | 0, v => by simp [ben]
  | n + 1, v => by
    rw [ben, ben_snoc n v, ben, List.cons_append, Nat.div_div_eq_div_mul, Nat.pow_succ, Nat.mul_comm 256]
theorem rfix_l0 : ∀ (i v : Nat) (xs : List Int), i ≤ xs.length → xs.length ≤ 1000 → v < 256 ^ i → v < 18446744073709551616 →
    Ev (fun k => cornucopiaref1_Fix.l0 k (v : Int) xs ((i : Int) - 1)) (strOfNums (((ben i v).map fun d : Nat => (d : Int)) ++ xs.drop i), 0)
  | 0, v, xs, hl, hx, hv, h64 => by
    have hv0 : v = 0 := by simpa using hv
    subst hv0
    refine Ev.step (fun k => (if_neg (by omega)).trans (if_neg (by omega))) ?_
    simp only [ben, List.map_nil, List.nil_append, List.drop_zero]
    exact Ev.now _
  | i + 1, v, xs, hl, hx, hv, h64 => by
    have e0 : ((i + 1 : Nat) : Int) - 1 = (i : Int) := by omega
    have e1 : wrap64 ((i : Int) - 1) = (i : Int) - 1 := wrap64_id (by omega) (by omega)
    have e2 : IntKind.u64.wrap (Int.tdiv (v : Int) 256) = ((v / 256 : Nat) : Int) := by
      rw [show Int.tdiv (v : Int) 256 = ((v / 256 : Nat) : Int) from rfl]
      exact u64_id (by omega) (by omega)
    have e3 : (Int.tmod (v : Int) 256) % 256 = ((v % 256 : Nat) : Int) := by
      rw [show Int.tmod (v : Int) 256 = ((v % 256 : Nat) : Int) from rfl]
      omega
    rw [e0]
    refine Ev.step (fun k => (if_pos (by omega)).trans ((if_pos (by omega)).trans (if_pos (by omega)))) ?_
    rw [e1, e2, e3, Int.toNat_natCast]
    have h := rfix_l0 i (v / 256) (xs.set i ((v % 256 : Nat) : Int)) (by rw [List.length_set]; omega) (by rw [List.length_set]; omega) (by rw [Nat.pow_succ] at hv; omega) (by omega)
    have hd : (xs.set i ((v % 256 : Nat) : Int)).drop i = ((v % 256 : Nat) : Int) :: xs.drop (i + 1) := by
      rw [List.set_eq_take_append_cons_drop, if_pos (by omega), List.drop_append, List.length_take, Nat.min_eq_left (by omega), Nat.sub_self, List.drop_zero, List.drop_take, Nat.sub_self, List.take_zero, List.nil_append]
    rw [hd] at h
    rw [ben_snoc, List.map_append, List.append_assoc]
    exact h
theorem RBytes_ev {a b c d n : Int} (h : Dt a b c d n) : Ev (fun k => cornucopiaref17_Bytes.f k a b c d n) (ba (db a b c d n)) := by
  have hn := h.n
  have hf : Ev (fun k => cornucopiaref1_Fix.f k n 8) (ba (be 8 n.toNat), 0) := by
    unfold cornucopiaref1_Fix.f
    refine Ev.iteF (by omega) ?_
    rw [show decide ((8 : Int) > 8) = false from rfl]
    refine Ev.step (fun k => (cornucopiaref1_Fix.j0.eq_2 _ _ _ _).trans ((if_neg (by simp)).trans ((if_pos (by omega)).trans (if_pos (by decide))))) ?_
    have h8 := rfix_l0 8 n.toNat (List.replicate 8 0) (by simp) (by simp) (by omega) (by omega)
    rw [Int.toNat_of_nonneg hn.1] at h8
    have e : strOfNums (((ben 8 n.toNat).map fun d : Nat => (d : Int)) ++ (List.replicate 8 (0 : Int)).drop 8) = ba (be 8 n.toNat) := by
      rw [show (List.replicate 8 (0 : Int)).drop 8 = [] from rfl, List.append_nil]
      apply ls_inj; rw [ls_strOfNums, ls_ba]; rfl
    rw [e] at h8
    rw [show wrap64 (8 - 1) = ((8 : Nat) : Int) - 1 from wrap64_id (by omega) (by omega)]
    exact h8
  have hN : Ev (fun k => cornucopiaref1_Num.f k n) (ba (be 8 n.toNat)) := by
    unfold cornucopiaref1_Num.f cornucopiaref1_fix.f
    exact Ev.bind (Ev.bind hf (Ev.now _)) (Ev.now _)
  unfold cornucopiaref17_Bytes.f
  refine Ev.bindC rfl (Ev.bind hN (Ev.iteT ?_ ?_))
  · rw [size_ba, be_length, ← ls_length, ls_four]; simp
  · rw [show strOfNums [a, b, c, d] ++ ba (be 8 n.toNat) = ba (db a b c d n) from ls_inj (by simp [ls_four, db])]
    exact Ev.now _
theorem ref_cmp {a b c d n a' b' c' d' n' : Int} (h : Dt a b c d n) (h' : Dt a' b' c' d' n') : refcmp a b c d n a' b' c' d' n' = cmpd a b c d n a' b' c' d' n' := by
  rw [cmpd_eq h h']
  have := h.a; have := h.b; have := h.c; have := h.d; have := h.n
  have := h'.a; have := h'.b; have := h'.c; have := h'.d; have := h'.n
  unfold refcmp rkn
  repeat' split
  all_goals omega
theorem RId_eq {a b c d : Int} (ha : 0 ≤ a ∧ a < 256) (hb : 0 ≤ b ∧ b < 256) (hc : 0 ≤ c ∧ c < 256) (hd : 0 ≤ d ∧ d < 256) : cornucopiaref17_Id.f a b c d = some (idn a b c d) := by
  unfold cornucopiaref17_Id.f idn
  refine congrArg some ?_
  unfold wrap64
  omega
theorem DotTells_pure (id : Int) (s : ByteArray) {a b c d n a' b' c' d' n' : Int} (h : Dt a b c d n) (h' : Dt a' b' c' d' n') : ∃ k, cornucopialaw18_DotTells.f k a b c d n a' b' c' d' n' id s = some true := by
  refine Ev.rounds ?_
  unfold cornucopialaw18_DotTells.f
  by_cases hs : (s.size : Int) > 300
  · exact Ev.iteT hs (Ev.bindC alive_eq (Ev.now _))
  refine Ev.iteF hs ?_
  obtain ⟨x1, x2, x3, x4, x5, x6, p1, p2⟩ := dots_same s (by omega)
  refine Ev.bind p1 (Ev.bind p2 (Ev.bindC alive_eq (Ev.iteT rfl ?_)))
  refine Ev.bindC (show dot_Compare.f a b c d n a' b' c' d' n' = some (cmpd a b c d n a' b' c' d' n') from rfl) ?_
  refine Ev.bindC (show cornucopiaref17_Compare.f a b c d n a' b' c' d' n' = some (refcmp a b c d n a' b' c' d' n') from rfl) (Ev.iteT (ref_cmp h h').symm ?_)
  refine Ev.bindC (show dot_Valid.f a b c d n = some (decide (1 ≤ n)) from by unfold dot_Valid.f; first | rfl | simp) (Ev.iteT ?_ ?_)
  · rw [beq_iff_eq]
    exact decide_eq_decide.2 (by omega)
  refine Ev.bindC (Actor_eq id) (Ev.bindC (show cornucopiaref17_Actor.f id = _ from rfl) (Ev.iteT (by simp) ?_))
  refine Ev.bindC (Id_eq h.a h.b h.c h.d) (Ev.bindC (RId_eq h.a h.b h.c h.d) (Ev.iteT rfl ?_))
  refine Ev.bind (Bytes_ev h) (Ev.bind (RBytes_ev h) (Ev.iteT rfl (Ev.iteT (by simp) ?_)))
  simp only [beq_self_eq_true]
  exact Ev.now _
end Go.Proofs.Ythljboogcjpgiaa.Pure
