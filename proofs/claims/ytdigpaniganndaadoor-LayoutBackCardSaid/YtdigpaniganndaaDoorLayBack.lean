/- LayoutBack: a key says of what it is; keys of two places are the same just if the places are; an object's elements stand between its ends, those of others do not; their order is that of elements, then dots. -/
import Derived.Test.YtdigpaniganndaaDoorPAllx24
import Derived.Test.YtdigpaniganndaaDoorLayP
import Derived.Test.YtdigpaniganndaaDoorLayA
set_option linter.unusedSimpArgs false
set_option linter.unusedVariables false
namespace Go.Proofs.YtdigpaniganndaaDoor.Pure
open Go.RowKit Go.Proofs.YtdigpaniganndaaDoor.PAll Go.Proofs.YtdigpaniganndaaDoorW.PrintWords Go.Proofs.YtdigpaniganndaaDoorW.PrintMore Go.Proofs.YtdigpaniganndaaDoor.Pb

theorem u8_inj {a b : Int} (ha : 0 ≤ a ∧ a < 256) (hb : 0 ≤ b ∧ b < 256) (h : UInt8.ofNat a.toNat = UInt8.ofNat b.toNat) : a = b := by
  have := congrArg UInt8.toNat h
  rw [UInt8.toNat_ofNat', UInt8.toNat_ofNat'] at this
  omega
theorem be8_inj {u v : Nat} (hu : u < 18446744073709551616) (hv : v < 18446744073709551616) (h : be 8 u = be 8 v) : u = v := by
  have e := congrArg (unL 0) h
  rw [unL_be, unL_be, Nat.zero_mul, Nat.zero_add, Nat.zero_add, Nat.mod_eq_of_lt (by omega), Nat.mod_eq_of_lt (by omega)] at e
  exact e
theorem db_inj {a b c d n a' b' c' d' n' : Int} (h : Dt a b c d n) (h' : Dt a' b' c' d' n') (e : db a b c d n = db a' b' c' d' n') : a = a' ∧ b = b' ∧ c = c' ∧ d = d' ∧ n = n' := by
  simp only [db, List.cons_append, List.nil_append, List.cons.injEq] at e
  obtain ⟨e1, e2, e3, e4, e5⟩ := e
  have e6 := be8_inj (by have := h.n; omega) (by have := h'.n; omega) e5
  exact ⟨u8_inj h.a h'.a e1, u8_inj h.b h'.b e2, u8_inj h.c h'.c e3, u8_inj h.d h'.d e4, by have := h.n; have := h'.n; omega⟩
/-- An element's key. -/
def ek (s e : List UInt8) (D : List UInt8) : List UInt8 := kk s 3 ++ tx e ++ D
theorem ek_eq (s e D : List UInt8) : ek s e D = kk s 3 ++ (tx e ++ D) := List.append_assoc _ _ _
theorem ek_inj {s e D s' e' D' : List UInt8} (h : ek s e D = ek s' e' D') : s = s' ∧ e = e' ∧ D = D' := by
  have h1 : tx s ++ (UInt8.ofNat 3 :: (tx e ++ D)) = tx s' ++ (UInt8.ofNat 3 :: (tx e' ++ D')) := by
    have h2 : (111 : UInt8) :: (tx s ++ (UInt8.ofNat 3 :: (tx e ++ D))) = 111 :: (tx s' ++ (UInt8.ofNat 3 :: (tx e' ++ D'))) := by
      have := h
      rw [ek_eq, ek_eq] at this
      simpa [kk] using this
    exact (List.cons.inj h2).2
  obtain rfl := tx_inj _ _ _ _ h1
  have h3 := (List.cons.inj (List.append_cancel_left h1)).2
  obtain rfl := tx_inj _ _ _ _ h3
  exact ⟨rfl, rfl, List.append_cancel_left h3⟩
theorem ek_lo (s e D t : List UInt8) : ek s e D < kk t 3 ↔ s < t := by
  have h := kk_lt s t (tx e ++ D) [] 3 3
  rw [List.append_nil, ← ek_eq] at h
  rw [h]
  refine ⟨fun h => h.elim id fun h => ?_, .inl⟩
  rcases lt_cons.1 h.2 with h2 | ⟨_, h2⟩
  · exact absurd h2 (u8_irr _)
  · exact absurd h2 (not_lt_nil _)
theorem ek_hi (s e D t : List UInt8) : ek s e D < kk t 4 ↔ s < t ∨ s = t := by
  have h := kk_lt s t (tx e ++ D) [] 3 4
  rw [List.append_nil, ← ek_eq] at h
  rw [h]
  exact ⟨fun h => h.imp id fun h => h.1, fun h => h.imp id fun h => ⟨h, lt_cons.2 (.inl (by decide))⟩⟩
theorem ek_lt (s e D e' D' : List UInt8) (h : e < e') : ek s e D < ek s e' D' := by
  rw [ek_eq, ek_eq]
  exact (app_lt _ _ _).2 ((tx_lt _ _ _ _).2 (.inl h))
theorem bl_eq (x y : List UInt8) : Op.bytesLess (ba x).toList (ba y).toList = decide (x < y) := by rw [less_eq, ls_ba, ls_ba]
theorem bl_eq2 (x y : ByteArray) : Op.bytesLess x.toList y.toList = decide (ls x < ls y) := less_eq x y

section
variable (s e t f : ByteArray) (a b c d n a' b' c' d' n' : Int) (hs : ls s ≠ []) (hss : s.size ≤ 40) (he : ls e ≠ []) (hes : e.size ≤ 60)
  (hts : t.size ≤ 40) (hfs : f.size ≤ 60) (h : Dt a b c d n) (hn : n ≠ 0) (h' : Dt a' b' c' d' n') (hn' : n' ≠ 0)
include hs hss in
theorem back_l0 : ∀ (m i : Nat), i + m = 3 → Ev (fun k => cornucopialaw21_LayoutBack.l0 k (ba (ek (ls s) (ls e) (db a b c d n))) (ba (ek (ls t) (ls f) (db a' b' c' d' n'))) (ba (kk (ls s) 3)) (ba (kk (ls s) 4)) (i : Int) s 3 e a b c d n t 3 f a' b' c' d' n') true
  | 0, i, hi => by
    refine Ev.step (fun k => (cornucopialaw21_LayoutBack.l0.eq_2 _ _ _ _ _ _ _ _ _ _ _ _ _ _ _ _ _ _ _ _ _ _).trans (if_neg (by omega))) ?_
    by_cases c1 : s.toList = t.toList
    · have hst : ls s = ls t := by rw [← toList_ls, ← toList_ls]; exact c1
      refine Ev.iteT c1 (Ev.bind alive_ev (Ev.iteT rfl ?_))
      rw [← hst]
      have hend : Ev (fun _ : Nat => if Op.bytesLess f.toList e.toList = true then some (Op.bytesLess (ba (ek (ls s) (ls f) (db a' b' c' d' n'))).toList (ba (ek (ls s) (ls e) (db a b c d n))).toList) else some true) true := by
        by_cases c2 : Op.bytesLess f.toList e.toList = true
        · refine Ev.iteT c2 ?_
          rw [bl_eq2, decide_eq_true_iff] at c2
          rw [bl_eq, decide_eq_true (ek_lt _ _ _ _ _ c2)]
          exact Ev.now _
        · exact Ev.iteF c2 (Ev.now _)
      by_cases c2 : Op.bytesLess e.toList f.toList = true
      · refine Ev.iteT c2 (Ev.iteT ?_ hend)
        rw [bl_eq2, decide_eq_true_iff] at c2
        rw [bl_eq, decide_eq_true (ek_lt _ _ _ _ _ c2)]
      · exact Ev.iteF c2 hend
    · exact Ev.iteF c1 (Ev.bind alive_ev (Ev.now _))
  | m + 1, i, hi => by
    have e1 : wrap64 ((i : Int) + 1) = ((i + 1 : Nat) : Int) := by rw [wrap64_id (by omega) (by omega)]; omega
    refine Ev.step (fun k => (cornucopialaw21_LayoutBack.l0.eq_2 _ _ _ _ _ _ _ _ _ _ _ _ _ _ _ _ _ _ _ _ _ _).trans (if_pos (by omega))) ?_
    refine Ev.bindC (Key_eq s (by omega) i (by omega)) (Ev.bind (ParsePart_ev s hs hss i (by omega)) (Ev.iteT rfl (Ev.iteF ?_ (Ev.iteT ?_ ?_))))
    · rw [show (⟨#[]⟩ : ByteArray).toList = [] from by rw [toList_ls]; rfl]
      simp
    · rw [bl_eq]
      refine decide_eq_true ?_
      have h := (kk_lt (ls s) (ls s) [] [] i 3).2 (.inr ⟨rfl, lt_cons.2 (.inl (by
        have : i = 0 ∨ i = 1 ∨ i = 2 := by omega
        rcases this with rfl | rfl | rfl <;> decide))⟩)
      simpa using h
    · rw [e1]
      exact back_l0 m (i + 1) (by omega)
include hs hss he hes hts hfs h hn h' hn' in
theorem back_j0 (x y : Int) : Ev (fun k => cornucopialaw21_LayoutBack.j0 k false s x e a b c d n t y f a' b' c' d' n') true := by
  refine Ev.step (fun k => (cornucopialaw21_LayoutBack.j0.eq_2 _ _ _ _ _ _ _ _ _ _ _ _ _ _ _ _ _ _).trans (if_neg (by simp))) ?_
  refine Ev.bind (ElemKey_ev s e (by omega) (by omega) h) (Ev.bind (ElemKey_ev t f (by omega) (by omega) h') (Ev.bind (ParseElem_ev s e hs hss he hes h hn) (Ev.bind (Ends_ev s (by omega)) ?_)))
  have hj2 : Ev (fun k => cornucopialaw21_LayoutBack.j2 k (ba (ek (ls s) (ls e) (db a b c d n))) (ba (ek (ls t) (ls f) (db a' b' c' d' n'))) (ba (kk (ls s) 3)) (ba (kk (ls s) 4)) false s 3 e a b c d n t 3 f a' b' c' d' n') true :=
    Ev.step (fun k => (cornucopialaw21_LayoutBack.j2.eq_2 _ _ _ _ _ _ _ _ _ _ _ _ _ _ _ _ _ _ _ _ _ _).trans (if_neg (by simp))) (back_l0 s e t f a b c d n a' b' c' d' n' hs hss 3 0 rfl)
  have hxy : (((ba (ek (ls s) (ls e) (db a b c d n))).toList == (ba (ek (ls t) (ls f) (db a' b' c' d' n'))).toList) != (s.toList == t.toList && ((3 : Int) == 3 && (e.toList == f.toList && (((a == a' && (b == b' && (c == c' && (d == d')))) && (n == n'))))))) = false := by
    rw [bne_eq_false_iff_eq, Bool.eq_iff_iff]
    simp only [Bool.and_eq_true, beq_iff_eq, toList_ls, ls_ba, true_and]
    constructor
    · intro hx
      obtain ⟨h1, h2, h3⟩ := ek_inj hx
      obtain ⟨rfl, rfl, rfl, rfl, rfl⟩ := db_inj h h' h3
      exact ⟨h1, h2, ⟨rfl, rfl, rfl, rfl⟩, rfl⟩
    · rintro ⟨h1, h2, ⟨rfl, rfl, rfl, rfl⟩, rfl⟩
      rw [h1, h2]
  have hj1 : ∀ z : Bool, z = (s.toList == t.toList) → Ev (fun k => cornucopialaw21_LayoutBack.j1 k (ba (ek (ls s) (ls e) (db a b c d n))) (ba (ek (ls t) (ls f) (db a' b' c' d' n'))) 0 (ba (kk (ls s) 3)) (ba (kk (ls s) 4)) z s 3 e a b c d n t 3 f a' b' c' d' n' s 3 e a b c d n) true := by
    intro z hz
    refine Ev.step (fun k => (cornucopialaw21_LayoutBack.j1.eq_2 _ _ _ _ _ _ _ _ _ _ _ _ _ _ _ _ _ _ _ _ _ _ _ _ _ _ _ _ _ _ _).trans (if_pos rfl)) ?_
    refine Ev.iteF (by simp) (Ev.iteF ?_ (Ev.iteT ?_ (Ev.iteF ?_ ?_)))
    · rw [bl_eq, decide_eq_true_iff, ek_lo]; exact lt_irr _
    · rw [bl_eq, decide_eq_true_iff, ek_hi]; exact .inr rfl
    · rw [hz]; simp
    · rw [hxy]; exact hj2
  by_cases c1 : Op.bytesLess (ba (ek (ls t) (ls f) (db a' b' c' d' n'))).toList (ba (kk (ls s) 3)).toList = true
  · refine Ev.iteT c1 (hj1 false ?_)
    rw [bl_eq, decide_eq_true_iff, ek_lo] at c1
    refine (beq_eq_false_iff_ne.2 fun hx => ?_).symm
    rw [toList_ls, toList_ls] at hx
    rw [hx] at c1
    exact lt_irr _ c1
  · refine Ev.iteF c1 (hj1 _ ?_)
    rw [bl_eq, decide_eq_true_iff, ek_lo] at c1
    show Op.bytesLess (ba (ek (ls t) (ls f) (db a' b' c' d' n'))).toList (ba (kk (ls s) 4)).toList = _
    rw [bl_eq, Bool.eq_iff_iff, decide_eq_true_iff, ek_hi, beq_iff_eq, toList_ls, toList_ls]
    exact ⟨fun hx => hx.elim (fun hx => absurd hx c1) Eq.symm, fun hx => .inr hx.symm⟩
end
theorem LayoutBack_pure (s e t f : ByteArray) (x y : Int) {a b c d n a' b' c' d' n' : Int} (h : Dt a b c d n) (h' : Dt a' b' c' d' n') : ∃ k, cornucopialaw21_LayoutBack.f k s x e a b c d n t y f a' b' c' d' n' = some true := by
  refine Ev.rounds ?_
  have hal : Ev (fun k => cornucopialaw21_LayoutBack.j0 k true s x e a b c d n t y f a' b' c' d' n') true :=
    Ev.step (fun k => (cornucopialaw21_LayoutBack.j0.eq_2 _ _ _ _ _ _ _ _ _ _ _ _ _ _ _ _ _ _).trans (if_pos rfl)) (Ev.bind alive_ev (Ev.now _))
  unfold cornucopialaw21_LayoutBack.f
  obtain ⟨t1, h1, h2⟩ := Name_eq s
  refine Ev.bindC h1 ?_
  by_cases c1 : t1 = true
  case neg => exact Ev.iteF c1 hal
  refine Ev.iteT c1 ?_
  obtain ⟨t2, h3, h4⟩ := Name_eq t
  refine Ev.bindC h3 ?_
  by_cases c2 : t2 = true
  case neg => exact Ev.iteF c2 hal
  refine Ev.iteT c2 ?_
  obtain ⟨t3, h5, h6⟩ := Elem_eq e
  refine Ev.bindC h5 ?_
  by_cases c3 : t3 = true
  case neg => exact Ev.iteF c3 hal
  refine Ev.iteT c3 ?_
  obtain ⟨t4, h7, h8⟩ := Elem_eq f
  refine Ev.bindC h7 ?_
  by_cases c4 : t4 = true
  case neg => exact Ev.iteF c4 hal
  refine Ev.iteT c4 ?_
  by_cases c5 : n = 0
  · exact Ev.iteT c5 hal
  refine Ev.iteF c5 ?_
  by_cases c6 : n' = 0
  · rw [beq_iff_eq.2 c6]; exact hal
  rw [beq_eq_false_iff_ne.2 c6]
  exact back_j0 s e t f a b c d n a' b' c' d' n' (h2.1 c1).1 (h2.1 c1).2 (h6.1 c3).1 (h6.1 c3).2 (h4.1 c2).2 (h8.1 c4).2 h c5 h' c6 x y
end Go.Proofs.YtdigpaniganndaaDoor.Pure
