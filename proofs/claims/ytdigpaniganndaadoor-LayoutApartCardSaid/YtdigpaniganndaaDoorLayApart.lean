/- LayoutApart: keys of objects of different names never are the same, nor stand between one another's; an element's keys stand together. -/
import Derived.Test.YtdigpaniganndaaDoorPAllx10
import Derived.Test.YtdigpaniganndaaDoorPAllx25
import Derived.Test.YtdigpaniganndaaDoorLayA
set_option linter.unusedSimpArgs false
set_option linter.unusedVariables false
namespace Go.Proofs.YtdigpaniganndaaDoor.Pure
open Go.RowKit Go.Proofs.YtdigpaniganndaaDoor.PAll Go.Proofs.YtdigpaniganndaaDoorW.PrintWords Go.Proofs.YtdigpaniganndaaDoorW.PrintMore Go.Proofs.YtdigpaniganndaaDoor.Pb

theorem apart_j1 (a b : ByteArray) (ha : a.size ≤ 300) (hb : b.size ≤ 300) : Ev (fun k => cornucopialaw21_LayoutApart.j1 k a b false) true := by
  by_cases c : a.toList = b.toList
  · exact Ev.step (fun k => (cornucopialaw21_LayoutApart.j1.eq_2 _ _ _ _).trans ((if_neg (by simp)).trans (if_pos c))) (Ev.bind alive_ev (Ev.now _))
  · have hne : ls a ≠ ls b := fun h => c (by rw [toList_ls, toList_ls]; exact h)
    refine Ev.step (fun k => (cornucopialaw21_LayoutApart.j1.eq_2 _ _ _ _).trans ((if_neg (by simp)).trans (if_neg c))) ?_
    have hkey : ((ba (kk (ls a) 1)).toList != (ba (kk (ls b) 1)).toList) = true := by
      rw [bne_iff_ne, toList_ls, toList_ls, ls_ba, ls_ba]
      intro h
      have h2 : tx (ls a) ++ [UInt8.ofNat 1] = tx (ls b) ++ [UInt8.ofNat 1] := (List.cons.inj h).2
      exact hne (tx_inj _ _ _ _ h2)
    have hend : Ev (fun k => (layout_Key.f a 1).bind fun t371 => (layout_Key.f b 1).bind fun t372 => some (t371.toList != t372.toList)) true := by
      refine Ev.bindC (Key_eq a (by omega) 1 (by omega)) (Ev.bindC (Key_eq b (by omega) 1 (by omega)) ?_)
      rw [hkey]
      exact Ev.now _
    refine Ev.bind (Ends_ev a (by omega)) (Ev.bind (Ends_ev b (by omega)) (Ev.bind alive_ev (Ev.iteT rfl (Ev.iteT ?_ ?_))))
    · rw [less_eq, ls_ba, ls_ba]
      refine decide_eq_true ?_
      have h := (kk_lt (ls a) (ls a) [] [] 3 4).2 (.inr ⟨rfl, lt_cons.2 (.inl (by decide))⟩)
      simpa using h
    · have e : ∀ x y : List UInt8, x ≠ y → (kk x 3 < kk y 4 ↔ x < y) := fun x y hxy => by
        have h := kk_lt x y [] [] 3 4
        rw [List.append_nil, List.append_nil] at h
        rw [h]
        exact ⟨fun h => h.elim id fun h => absurd h.1 hxy, .inl⟩
      by_cases c2 : Op.bytesLess (ba (kk (ls b) 3)).toList (ba (kk (ls a) 4)).toList = true
      · refine Ev.iteT c2 (Ev.iteF ?_ hend)
        rw [less_eq, ls_ba, ls_ba, decide_eq_true_iff, e _ _ (Ne.symm hne)] at c2
        rw [less_eq, ls_ba, ls_ba, decide_eq_true_iff, e _ _ hne]
        exact lt_asym c2
      · exact Ev.iteF c2 hend
theorem LayoutApart_pure (a b e o : ByteArray) {d0 d1 d2 d3 d4 e0 e1 e2 e3 e4 : Int} (hd : Dt d0 d1 d2 d3 d4) (he : Dt e0 e1 e2 e3 e4) : ∃ k, cornucopialaw21_LayoutApart.f k a b e o d0 d1 d2 d3 d4 e0 e1 e2 e3 e4 = some true := by
  refine Ev.rounds ?_
  have hal : Ev (fun k => cornucopialaw21_LayoutApart.j0 k a b e o true d0 d1 d2 d3 d4 e0 e1 e2 e3 e4) true :=
    Ev.step (fun k => (cornucopialaw21_LayoutApart.j0.eq_2 _ _ _ _ _ _ _ _ _ _ _ _ _ _ _ _).trans (if_pos rfl)) (Ev.bind alive_ev (Ev.now _))
  unfold cornucopialaw21_LayoutApart.f
  by_cases c1 : (a.size : Int) > 300
  · exact Ev.iteT c1 hal
  refine Ev.iteF c1 ?_
  by_cases c2 : (b.size : Int) > 300
  · exact Ev.iteT c2 hal
  refine Ev.iteF c2 ?_
  by_cases c3 : (e.size : Int) > 300
  · exact Ev.iteT c3 hal
  refine Ev.iteF c3 ?_
  by_cases c4 : (o.size : Int) > 300
  · exact Ev.iteT c4 hal
  refine Ev.iteF c4 ?_
  by_cases c5 : e.toList = o.toList
  · rw [beq_iff_eq.2 c5]; exact hal
  rw [beq_eq_false_iff_ne.2 c5]
  have hne : ls e ≠ ls o := fun h => c5 (by rw [toList_ls, toList_ls]; exact h)
  refine Ev.step (fun k => (cornucopialaw21_LayoutApart.j0.eq_2 _ _ _ _ _ _ _ _ _ _ _ _ _ _ _ _).trans (if_neg (by simp))) ?_
  refine Ev.bindC (ElemPrefix_eq a e (by omega) (by omega)) (Ev.bind (ElemKey_ev a e (by omega) (by omega) hd) (Ev.bind (ElemKey_ev a o (by omega) (by omega) he) ?_))
  have hj := apart_j1 a b (by omega) (by omega)
  have hz : (ba (kk (ls a) 3 ++ tx (ls e))).size ≤ (ba (kk (ls a) 3 ++ tx (ls e) ++ db d0 d1 d2 d3 d4)).size := by rw [size_ba, size_ba]; simp
  refine Ev.iteF (by show ¬ _ < _; omega) (Ev.iteT (by omega) (Ev.iteT (by omega) (Ev.iteT ?_ ?_)))
  · rw [toList_ls, toList_ls, ls_extract, ls_ba, ls_ba, Int.toNat_natCast, size_ba, List.drop_zero, List.take_left]
  · by_cases c6 : ((ba (kk (ls a) 3 ++ tx (ls o) ++ db e0 e1 e2 e3 e4)).size : Int) ≥ ((ba (kk (ls a) 3 ++ tx (ls e))).size : Int)
    · refine Ev.iteT c6 (Ev.iteT c6 ?_)
      have hb : (((ba (kk (ls a) 3 ++ tx (ls o) ++ db e0 e1 e2 e3 e4)).extract 0 (((ba (kk (ls a) 3 ++ tx (ls e))).size : Int) : Int).toNat).toList == (ba (kk (ls a) 3 ++ tx (ls e))).toList) = false := by
        rw [beq_eq_false_iff_ne, toList_ls, toList_ls, ls_extract, ls_ba, ls_ba, Int.toNat_natCast, size_ba, List.drop_zero]
        intro h
        have h2 := List.take_append_drop (kk (ls a) 3 ++ tx (ls e)).length (kk (ls a) 3 ++ tx (ls o) ++ db e0 e1 e2 e3 e4)
        rw [h, List.append_assoc, List.append_assoc] at h2
        have h3 := List.append_cancel_left h2
        exact hne (tx_inj _ _ _ _ h3)
      rw [hb]
      exact hj
    · exact Ev.iteF c6 hj
end Go.Proofs.YtdigpaniganndaaDoor.Pure
