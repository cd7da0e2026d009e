/- OkeyOrders: the order of the bytes is that of the things, part by part, and none's bytes begin with another one's. -/
import Derived.Test.YtbejofbbmpmnfaaDoorPAllx8
import Derived.Test.YtbejofbbmpmnfaaDoorPAllx9
import Derived.Test.YtbejofbbmpmnfaaDoorOkeyOrd
set_option linter.unusedSimpArgs false
set_option linter.unusedVariables false
namespace Go.Proofs.YtbejofbbmpmnfaaDoor.Pure
open Go.RowKit Go.Proofs.YtbejofbbmpmnfaaDoor.PAll Go.Proofs.YtbejofbbmpmnfaaDoorW.PrintWords Go.Proofs.YtbejofbbmpmnfaaDoorW.PrintMore Go.Proofs.YtbejofbbmpmnfaaDoor.Pb

def three (a : ByteArray) (m i : Int) : List Pt := [⟨1, a, 0, 0⟩, ⟨2, ⟨#[]⟩, m, 0⟩, ⟨3, ⟨#[]⟩, 0, i⟩]
theorem three_ev (a : ByteArray) (m i : Int) (ha : a.size ≤ 300) (hm : 0 ≤ m ∧ m < 18446744073709551616) (hi : -9223372036854775808 ≤ i ∧ i ≤ 9223372036854775807) :
    Ev (fun k => okey_Put.f k (three a m i)) (ba (tx (ls a) ++ (be 8 m.toNat ++ be 8 (up i))), 0) := by
  have h := Put_ev (three a m i) (by
    intro x hx
    simp only [three, List.mem_cons, List.not_mem_nil, or_false] at hx
    rcases hx with rfl | rfl | rfl
    · exact ⟨by dsimp only; omega, by dsimp only; omega, by dsimp only; omega, by dsimp only; omega, by dsimp only; omega, by dsimp only; omega, by dsimp only; omega⟩
    · exact ⟨by dsimp only; omega, by dsimp only; omega, by show 0 ≤ 1000000; omega, hm.1, hm.2, by dsimp only; omega, by dsimp only; omega⟩
    · exact ⟨by dsimp only; omega, by dsimp only; omega, by show 0 ≤ 1000000; omega, by dsimp only; omega, by dsimp only; omega, hi.1, hi.2⟩) (by simp [three])
  rw [show (three a m i).flatMap pt = tx (ls a) ++ (be 8 m.toNat ++ be 8 (up i)) by simp [three, pt]] at h
  exact h
theorem up_lt_iff (i j : Int) (hi : -9223372036854775808 ≤ i ∧ i ≤ 9223372036854775807) (hj : -9223372036854775808 ≤ j ∧ j ≤ 9223372036854775807) : up i < up j ↔ i < j := by
  unfold up; omega
theorem up_bound (i : Int) (hi : -9223372036854775808 ≤ i ∧ i ≤ 9223372036854775807) : up i < 18446744073709551616 := by unfold up; omega
theorem beq_of {p q : Prop} [Decidable p] [Decidable q] (h : p ↔ q) : (decide p == decide q) = true := by
  rw [beq_iff_eq]; exact decide_eq_decide.2 h
theorem less3 (a b : ByteArray) (m n i j : Int) (hm : 0 ≤ m ∧ m < 18446744073709551616) (hn : 0 ≤ n ∧ n < 18446744073709551616) (hi : -9223372036854775808 ≤ i ∧ i ≤ 9223372036854775807) (hj : -9223372036854775808 ≤ j ∧ j ≤ 9223372036854775807) :
    tx (ls a) ++ (be 8 m.toNat ++ be 8 (up i)) < tx (ls b) ++ (be 8 n.toNat ++ be 8 (up j)) ↔ ls a < ls b ∨ ls a = ls b ∧ (m < n ∨ m = n ∧ i < j) := by
  rw [tx_lt, be8_lt _ _ _ _ (by omega) (by omega), be8_lt' _ _ (up_bound i hi) (up_bound j hj), up_lt_iff i j hi hj]
  have e1 : m.toNat < n.toNat ↔ m < n := by omega
  have e2 : m.toNat = n.toNat ↔ m = n := by omega
  rw [e1, e2]
theorem orders_j1 (a b : ByteArray) (m n i j : Int) (ha : a.size ≤ 300) (hb : b.size ≤ 300) (hm : 0 ≤ m ∧ m < 18446744073709551616) (hn : 0 ≤ n ∧ n < 18446744073709551616) (hi : -9223372036854775808 ≤ i ∧ i ≤ 9223372036854775807) (hj : -9223372036854775808 ≤ j ∧ j ≤ 9223372036854775807)
    (x : Bool) (hx : x = decide (ls a < ls b ∨ ls a = ls b ∧ (m < n ∨ m = n ∧ i < j))) :
    Ev (fun k => cornucopialaw2_OkeyOrders.j1 k a b m n i j (ba (tx (ls a) ++ (be 8 m.toNat ++ be 8 (up i)))) 0 (ba (tx (ls b) ++ (be 8 n.toNat ++ be 8 (up j)))) 0 x) true := by
  have j2 : ∀ y : Bool, y = (a.toList == b.toList) → Ev (fun k => cornucopialaw2_OkeyOrders.j2 k a b m n i j (ba (tx (ls a) ++ (be 8 m.toNat ++ be 8 (up i)))) 0 (ba (tx (ls b) ++ (be 8 n.toNat ++ be 8 (up j)))) 0 x y) true := by
    intro y hy
    refine Ev.step (fun k => cornucopialaw2_OkeyOrders.j2.eq_2 _ _ _ _ _ _ _ _ _ _ _ _ _) ?_
    refine Ev.bind alive_ev (Ev.iteT rfl (Ev.iteT rfl (Ev.iteT rfl (Ev.iteT ?_ (Ev.iteT ?_ ?_)))))
    · rw [less_eq, ls_ba, ls_ba, hx]
      exact beq_of (less3 a b m n i j hm hn hi hj)
    · rw [hy]; simp
    · have e1 := Num_ev m.toNat (by omega)
      have e2 := Num_ev n.toNat (by omega)
      rw [Int.toNat_of_nonneg hm.1] at e1
      rw [Int.toNat_of_nonneg hn.1] at e2
      refine Ev.bind e1 (Ev.bind e2 (Ev.iteT ?_ ?_))
      · rw [less_eq, ls_ba, ls_ba]
        refine beq_of ?_
        rw [be8_lt' _ _ (by omega) (by omega)]
        omega
      · refine Ev.bind (Int_ev i hi.1 hi.2) (Ev.bind (Int_ev j hj.1 hj.2) ?_)
        rw [less_eq, ls_ba, ls_ba, beq_of (show be 8 (up i) < be 8 (up j) ↔ i < j by rw [be8_lt' _ _ (up_bound i hi) (up_bound j hj), up_lt_iff i j hi hj])]
        exact Ev.now _
  refine Ev.step (fun k => cornucopialaw2_OkeyOrders.j1.eq_2 _ _ _ _ _ _ _ _ _ _ _ _) ?_
  refine Ev.bindC (Text_eq a (by omega)) (Ev.bindC (Text_eq b (by omega)) ?_)
  have key : ∀ r, tx (ls b) = tx (ls a) ++ r → ls a = ls b := fun r h => tx_inj (ls a) (ls b) r [] (by rw [List.append_nil]; exact h.symm)
  by_cases c : (((ba (tx (ls a))).size : Nat) : Int) ≤ (((ba (tx (ls b))).size : Nat) : Int)
  · refine Ev.iteT c (Ev.iteT (by omega) (j2 _ ?_))
    rw [Int.toNat_natCast, toList_ls, toList_ls, toList_ls, toList_ls, ls_extract, ls_ba, ls_ba, size_ba]
    rw [Bool.eq_iff_iff, beq_iff_eq, beq_iff_eq]
    constructor
    · intro h
      refine key ((tx (ls b)).drop (tx (ls a)).length) ?_
      rw [List.drop_zero] at h
      exact ((List.take_append_drop (tx (ls a)).length (tx (ls b))).symm).trans (by rw [h])
    · intro h
      rw [h, List.take_of_length_le (Nat.le_refl _)]
      rfl
  · refine Ev.iteF c (j2 _ ?_)
    refine (beq_eq_false_iff_ne.2 fun h => c ?_).symm
    rw [toList_ls, toList_ls] at h
    rw [h]
    exact Int.le_refl _
theorem OkeyOrders_pure (a b : ByteArray) (m n i j : Int) (hm : 0 ≤ m ∧ m < 18446744073709551616) (hn : 0 ≤ n ∧ n < 18446744073709551616) (hi : -9223372036854775808 ≤ i ∧ i ≤ 9223372036854775807) (hj : -9223372036854775808 ≤ j ∧ j ≤ 9223372036854775807) :
    ∃ k, cornucopialaw2_OkeyOrders.f k a b m n i j = some true := by
  refine Ev.rounds ?_
  have hal : Ev (fun k => cornucopialaw2_OkeyOrders.j0 k a b m n i j true) true :=
    Ev.step (fun k => (cornucopialaw2_OkeyOrders.j0.eq_2 _ _ _ _ _ _ _ _).trans (if_pos rfl)) (Ev.bind alive_ev (Ev.now _))
  unfold cornucopialaw2_OkeyOrders.f
  by_cases c1 : (a.size : Int) > 300
  · exact Ev.iteT c1 hal
  refine Ev.iteF c1 ?_
  by_cases c2 : (b.size : Int) > 300
  · rw [decide_eq_true c2]; exact hal
  rw [decide_eq_false c2]
  refine Ev.step (fun k => (cornucopialaw2_OkeyOrders.j0.eq_2 _ _ _ _ _ _ _ _).trans (if_neg (by simp))) ?_
  refine Ev.bind (three_ev a m i (by omega) hm hi) (Ev.bind (three_ev b n j (by omega) hn hj) ?_)
  have J := fun x hx => orders_j1 a b m n i j (by omega) (by omega) hm hn hi hj x hx
  by_cases l1 : Op.bytesLess a.toList b.toList = true
  · refine Ev.iteT l1 (J true ?_)
    rw [less_eq] at l1
    exact (decide_eq_true (.inl (of_decide_eq_true l1))).symm
  refine Ev.iteF l1 ?_
  rw [less_eq] at l1
  have l1' : ¬ ls a < ls b := fun h => l1 (decide_eq_true h)
  by_cases l2 : a.toList = b.toList
  · refine Ev.iteT l2 ?_
    rw [toList_ls, toList_ls] at l2
    by_cases l3 : m < n
    · exact Ev.iteT l3 (J true (decide_eq_true (.inr ⟨l2, .inl l3⟩)).symm)
    refine Ev.iteF l3 ?_
    by_cases l4 : m = n
    · refine Ev.iteT l4 (J _ ?_)
      refine decide_eq_decide.2 ⟨fun h => .inr ⟨l2, .inr ⟨l4, h⟩⟩, fun h => ?_⟩
      rcases h with h | ⟨_, h | h⟩
      · exact absurd h l1'
      · exact absurd h l3
      · exact h.2
    · refine Ev.iteF l4 (J false ?_)
      refine (decide_eq_false fun h => ?_).symm
      rcases h with h | ⟨_, h | h⟩
      · exact l1' h
      · exact l3 h
      · exact l4 h.1
  · refine Ev.iteF l2 (J false ?_)
    rw [toList_ls, toList_ls] at l2
    refine (decide_eq_false fun h => ?_).symm
    rcases h with h | h
    · exact l1' h
    · exact l2 h.1
theorem wf_u64 {n : Int} (h : (Lit.int .u64 n).wf = true) : 0 ≤ n ∧ n < 18446744073709551616 := by
  simp only [Lit.wf, IntKind.min, IntKind.max, IntKind.signed, IntKind.bits, Bool.and_eq_true, decide_eq_true_eq] at h
  simp at h
  omega
theorem wf_i64 {n : Int} (h : (Lit.int .i64 n).wf = true) : -9223372036854775808 ≤ n ∧ n ≤ 9223372036854775807 := by
  simp only [Lit.wf, IntKind.min, IntKind.max, IntKind.signed, IntKind.bits, Bool.and_eq_true, decide_eq_true_eq] at h
  simp at h
  omega
end Go.Proofs.YtbejofbbmpmnfaaDoor.Pure
