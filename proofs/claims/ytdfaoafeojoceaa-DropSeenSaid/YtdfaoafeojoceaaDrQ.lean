/- What the printed Room, Small, Less, Compare, Ordered, SameEntries answer, in plain words. -/
import Derived.Test.YtdfaoafeojoceaaDrS
import Derived.Test.YtdfaoafeojoceaaDrNum
import Derived.Test.YtdfaoafeojoceaaPAllx3
import Derived.Test.YtdfaoafeojoceaaPAllx5
import Derived.Test.YtdfaoafeojoceaaPAllx10
set_option linter.unusedSimpArgs false
set_option linter.unusedVariables false
namespace Go.Proofs.Ytdfaoafeojoceaa.Dr
open Go.RowKit Go.Proofs.Ytdfaoafeojoceaa.Rw Go.Proofs.Ytdfaoafeojoceaa.PAll Go.Proofs.YtdfaoafeojoceaaW.PrintWords Go.Proofs.YtdfaoafeojoceaaW.PrintMore Go.Proofs.Ytdfaoafeojoceaa.Pb Go.Proofs.Ytdfaoafeojoceaa.Pure

def room2 (x a b : Int) : Int := if x < 0 then -1 else if a > x then -1 else if b > x - a then -1 else x - a - b
theorem Room_ev (x a b : Int) (h1 : -1 ≤ x) (h2 : x ≤ 20000) (ha : 0 ≤ a) (hb : 0 ≤ b) : Ev (fun k => cornucopiabook_Room.f k x [a, b]) (room2 x a b) := by
  unfold cornucopiabook_Room.f room2
  by_cases c1 : x < 0
  · rw [if_pos c1]
    exact Ev.step (fun k => (if_pos (by simp)).trans (if_pos c1)) (Ev.now _)
  rw [if_neg c1]
  by_cases c2 : a > x
  · rw [if_pos c2]
    exact Ev.step (fun k => (if_pos (by simp)).trans ((if_neg c1).trans ((if_pos (by simp)).trans (if_pos (by exact c2))))) (Ev.now _)
  rw [if_neg c2]
  refine Ev.step (fun k => (if_pos (by simp)).trans ((if_neg c1).trans ((if_pos (by simp)).trans (if_neg (by exact c2))))) ?_
  rw [show wrap64 (x - rd [a, b] 0) = x - a from wrap64_id (by show _ ≤ x - a; omega) (by show x - a ≤ _; omega), show wrap64 (0 + 1) = 1 from wrap64_id (by decide) (by decide)]
  by_cases c3 : b > x - a
  · rw [if_pos c3]
    exact Ev.step (fun k => (if_pos (by simp)).trans ((if_neg (by omega)).trans ((if_pos (by simp)).trans (if_pos (by exact c3))))) (Ev.now _)
  rw [if_neg c3]
  refine Ev.step (fun k => (if_pos (by simp)).trans ((if_neg (by omega)).trans ((if_pos (by simp)).trans (if_neg (by exact c3))))) ?_
  rw [show wrap64 (x - a - rd [a, b] 1) = x - a - b from wrap64_id (by show _ ≤ x - a - b; omega) (by show x - a - b ≤ _; omega), show wrap64 (1 + 1) = 2 from wrap64_id (by decide) (by decide)]
  exact Ev.step (fun k => if_neg (by simp)) (Ev.now _)
theorem small_l0 (l : List En) : ∀ (m i : Nat) (x : Int), i + m = l.length → x ≤ 20000 → -1 ≤ x → ∃ r, Ev (fun k => cornucopialaw5_Small.l0 k l x (i : Int)) r ∧ (r = true → l.length ≤ 150 ∧ 0 ≤ x ∧ ∀ j, i ≤ j → j < l.length → (enAt l j).f0.size ≤ 20000 ∧ (enAt l j).f3.size ≤ 20000)
  | 0, i, x, hi, h2, h1 => by
    by_cases c : (l.length : Int) ≤ 150
    · exact ⟨decide (x ≥ 0), Ev.step (fun k => (if_neg (by omega)).trans (if_pos c)) (Ev.now _), fun hr => ⟨by omega, of_decide_eq_true hr, fun j h3 h4 => by omega⟩⟩
    · exact ⟨false, Ev.step (fun k => (if_neg (by omega)).trans (if_neg c)) (Ev.now _), fun hr => by cases hr⟩
  | m + 1, i, x, hi, h2, h1 => by
    by_cases c4 : (i : Int) < 400
    · by_cases cx : x ≥ 0
      · have hR := Room_ev x ((enAt l i).f0.size : Int) ((enAt l i).f3.size : Int) h1 h2 (by omega) (by omega)
        have hr2 : room2 x ((enAt l i).f0.size : Int) ((enAt l i).f3.size : Int) ≤ 20000 ∧ -1 ≤ room2 x ((enAt l i).f0.size : Int) ((enAt l i).f3.size : Int) ∧ (0 ≤ room2 x ((enAt l i).f0.size : Int) ((enAt l i).f3.size : Int) → (enAt l i).f0.size ≤ 20000 ∧ (enAt l i).f3.size ≤ 20000) := by
          unfold room2
          rw [if_neg (by omega)]
          split
          · omega
          · split <;> omega
        obtain ⟨r, hE, hr⟩ := small_l0 l m (i + 1) (room2 x ((enAt l i).f0.size : Int) ((enAt l i).f3.size : Int)) (by omega) hr2.1 hr2.2.1
        refine ⟨r, Ev.step (fun k => (if_pos (by omega)).trans ((if_pos c4).trans ((if_pos cx).trans (if_pos (by omega))))) (Ev.bind hR ?_), fun h => ?_⟩
        · rw [show wrap64 ((i : Int) + 1) = ((i + 1 : Nat) : Int) by rw [wrap64_id (by omega) (by omega)]; omega]
          exact hE
        · obtain ⟨q1, q2, q3⟩ := hr h
          refine ⟨q1, by omega, fun j h3 h4 => ?_⟩
          by_cases e : i = j
          · subst e; exact hr2.2.2 q2
          · exact q3 j (by omega) h4
      · by_cases c : (l.length : Int) ≤ 150
        · exact ⟨decide (x ≥ 0), Ev.step (fun k => (if_pos (by omega)).trans ((if_pos c4).trans ((if_neg cx).trans (if_pos c)))) (Ev.now _), fun hr => absurd (of_decide_eq_true hr) cx⟩
        · exact ⟨false, Ev.step (fun k => (if_pos (by omega)).trans ((if_pos c4).trans ((if_neg cx).trans (if_neg c)))) (Ev.now _), fun hr => by cases hr⟩
    · exact ⟨false, Ev.step (fun k => (if_pos (by omega)).trans ((if_neg c4).trans (if_neg (by omega)))) (Ev.now _), fun hr => by cases hr⟩
theorem mem_enAt {l : List En} {x : En} (h : x ∈ l) : ∃ j, j < l.length ∧ enAt l j = x := by
  obtain ⟨j, hj, e⟩ := List.getElem_of_mem h
  exact ⟨j, hj, enAt_eq (by rw [List.getElem?_eq_getElem hj, e])⟩
theorem Small_ev (l : List En) : ∃ r, Ev (fun k => cornucopialaw5_Small.f k l) r ∧ (r = true → l.length ≤ 150 ∧ ∀ x ∈ l, x.f0.size ≤ 20000 ∧ x.f3.size ≤ 20000) := by
  obtain ⟨r, hE, hr⟩ := small_l0 l l.length 0 20000 (by omega) (by omega) (by omega)
  refine ⟨r, hE, fun h => ?_⟩
  obtain ⟨q1, _, q3⟩ := hr h
  refine ⟨q1, fun x hx => ?_⟩
  obtain ⟨j, hj, e⟩ := mem_enAt hx
  rw [← e]
  exact q3 j (Nat.zero_le _) hj
theorem lt_cons {a b : UInt8} {x y : List UInt8} : a :: x < b :: y ↔ a < b ∨ a = b ∧ x < y := List.cons_lt_cons_iff
theorem u8_int (a b : UInt8) : ((a.toNat : Int) < (b.toNat : Int)) ↔ a < b := by rw [UInt8.lt_iff_toNat_lt]; omega
theorem u8_eq (a b : UInt8) : ((a.toNat : Int) = (b.toNat : Int)) ↔ a = b := by
  constructor
  · intro h; exact UInt8.toNat_inj.1 (by omega)
  · rintro rfl; rfl
theorem less_l0 (a b : ByteArray) (ha : a.size ≤ 1000000) (hb : b.size ≤ 1000000) : ∀ (m i : Nat), i + m = a.size → Ev (fun k => cornucopiaref1_Less.l0 k a b (i : Int)) (decide ((ls a).drop i < (ls b).drop i))
  | 0, i, hi => by
    have e1 : (ls a).drop i = [] := List.drop_of_length_le (by rw [ls_length]; omega)
    refine Ev.step (fun k => if_neg (by omega)) ?_
    refine Ev.step (fun k => (cornucopiaref1_Less.j1.eq_2 _ _ _ _ _).trans (if_neg (by simp))) ?_
    rw [show decide ((a.size : Int) < (b.size : Int)) = decide ((ls a).drop i < (ls b).drop i) from decide_eq_decide.2 (by
      rw [e1]
      by_cases h : i < b.size
      · rw [drop_cons 0 (ls b) i (by rw [ls_length]; exact h)]
        exact ⟨fun _ => List.nil_lt_cons _ _, fun _ => by omega⟩
      · rw [List.drop_of_length_le (by rw [ls_length]; omega)]
        exact ⟨fun _ => by omega, fun h => absurd h (List.not_lt_nil _)⟩)]
    exact Ev.now _
  | m + 1, i, hi => by
    have ea := drop_cons 0 (ls a) i (by rw [ls_length]; omega)
    refine Ev.step (fun k => if_pos (by omega)) ?_
    by_cases h : i < b.size
    · have eb := drop_cons 0 (ls b) i (by rw [ls_length]; exact h)
      rw [decide_eq_true (show (i : Int) < (b.size : Int) by omega)]
      have e3 : ∀ s : ByteArray, bt s (i : Int) = (((ls s).getD i 0).toNat : Int) := fun s => by rw [bt_ls]; rfl
      rw [ea, eb]
      by_cases he : (ls a).getD i 0 = (ls b).getD i 0
      · refine Ev.step (fun k => (cornucopiaref1_Less.j1.eq_2 _ _ _ _ _).trans ((if_pos rfl).trans ((if_pos (by omega)).trans ((if_pos (by omega)).trans ((if_pos (by omega)).trans (if_pos (by rw [e3, e3, he]))))))) ?_
        rw [show wrap64 ((i : Int) + 1) = ((i + 1 : Nat) : Int) by rw [wrap64_id (by omega) (by omega)]; omega]
        have := less_l0 a b ha hb m (i + 1) (by omega)
        rw [show decide ((ls a).drop (i + 1) < (ls b).drop (i + 1)) = decide ((ls a).getD i 0 :: (ls a).drop (i + 1) < (ls b).getD i 0 :: (ls b).drop (i + 1)) from decide_eq_decide.2 (by
          rw [lt_cons, he]
          exact ⟨fun h => .inr ⟨rfl, h⟩, fun h => h.elim (fun h => absurd h (by simp)) (fun h => h.2)⟩)] at this
        exact this
      · refine Ev.step (fun k => (cornucopiaref1_Less.j1.eq_2 _ _ _ _ _).trans ((if_pos rfl).trans ((if_pos (by omega)).trans ((if_pos (by omega)).trans ((if_pos (by omega)).trans (if_neg (by rw [e3, e3, u8_eq]; exact he))))))) ?_
        rw [e3, e3, show decide ((((ls a).getD i 0).toNat : Int) < (((ls b).getD i 0).toNat : Int)) = decide ((ls a).getD i 0 :: (ls a).drop (i + 1) < (ls b).getD i 0 :: (ls b).drop (i + 1)) from decide_eq_decide.2 (by
          rw [lt_cons, u8_int]
          exact ⟨fun h => .inl h, fun h => h.elim id (fun h => absurd h.1 he)⟩)]
        exact Ev.now _
    · rw [decide_eq_false (show ¬ (i : Int) < (b.size : Int) by omega)]
      refine Ev.step (fun k => (cornucopiaref1_Less.j1.eq_2 _ _ _ _ _).trans (if_neg (by simp))) ?_
      rw [show decide ((a.size : Int) < (b.size : Int)) = decide ((ls a).drop i < (ls b).drop i) from decide_eq_decide.2 (by
        rw [List.drop_of_length_le (l := ls b) (by rw [ls_length]; omega)]
        exact ⟨fun _ => by omega, fun h => absurd h (List.not_lt_nil _)⟩)]
      exact Ev.now _
theorem Less_ev (a b : ByteArray) (ha : a.size ≤ 1000000) (hb : b.size ≤ 1000000) : Ev (fun k => cornucopiaref1_Less.f k a b) (decide (ls a < ls b)) := by
  have := less_l0 a b ha hb a.size 0 (by omega)
  rw [List.drop_zero, List.drop_zero] at this
  exact this
/-- The order of versions. -/
def cmpE (x y : En) : Int := if ls x.f0 < ls y.f0 then -1 else if ls y.f0 < ls x.f0 then 1 else if x.f1 > y.f1 then -1 else if x.f1 < y.f1 then 1 else 0
theorem Compare_ev (x y : En) (hx : x.f0.size ≤ 1000000) (hy : y.f0.size ≤ 1000000) : Ev (fun k => cornucopiaref5_Compare.f k x.f0 x.f1 x.f2 x.f3 y.f0 y.f1 y.f2 y.f3) (cmpE x y) := by
  unfold cornucopiaref5_Compare.f cmpE
  refine Ev.bind (Less_ev x.f0 y.f0 hx hy) ?_
  by_cases c1 : ls x.f0 < ls y.f0
  · rw [if_pos c1]
    exact Ev.iteT (by simpa using c1) (Ev.now _)
  rw [if_neg c1]
  refine Ev.iteF (by simpa using c1) (Ev.bind (Less_ev y.f0 x.f0 hy hx) ?_)
  by_cases c2 : ls y.f0 < ls x.f0
  · rw [if_pos c2]
    exact Ev.iteT (by simpa using c2) (Ev.now _)
  rw [if_neg c2]
  refine Ev.iteF (by simpa using c2) ?_
  by_cases c3 : x.f1 > y.f1
  · rw [show (if x.f1 > y.f1 then (-1 : Int) else if x.f1 < y.f1 then 1 else 0) = -1 from if_pos c3]; exact Ev.iteT c3 (Ev.now _)
  rw [show (if x.f1 > y.f1 then (-1 : Int) else if x.f1 < y.f1 then 1 else 0) = if x.f1 < y.f1 then 1 else 0 from if_neg c3]
  refine Ev.iteF c3 ?_
  by_cases c4 : x.f1 < y.f1
  · rw [show (if x.f1 < y.f1 then (1 : Int) else 0) = 1 from if_pos c4]; exact Ev.iteT c4 (Ev.now _)
  rw [show (if x.f1 < y.f1 then (1 : Int) else 0) = 0 from if_neg c4]
  exact Ev.iteF c4 (Ev.now _)
theorem ordered_l0 (l : List En) (hl : l.length ≤ 100000) (hk : ∀ x ∈ l, x.f0.size ≤ 1000000) : ∀ (m i : Nat), 1 ≤ i → (i + m = l.length ∨ m = 0 ∧ l.length ≤ i) → ∃ r, Ev (fun k => cornucopialaw5_Ordered.l0 k l (i : Int)) r ∧ (r = true → ∀ j, i ≤ j → j < l.length → cmpE (enAt l (j - 1)) (enAt l j) < 0)
  | 0, i, h1, hi => ⟨true, Ev.step (fun k => if_neg (by omega)) (Ev.now _), fun _ j h3 h4 => by omega⟩
  | m + 1, i, h1, hi => by
    have hi : i + (m + 1) = l.length := by omega
    have e1 : wrap64 ((i : Int) - 1) = ((i - 1 : Nat) : Int) := by rw [wrap64_id (by omega) (by omega)]; omega
    have hm : ∀ j, j < l.length → (enAt l j).f0.size ≤ 1000000 := fun j hj => hk _ (by rw [enAt_eq (List.getElem?_eq_getElem hj)]; exact List.getElem_mem _)
    have hC := Compare_ev (enAt l (i - 1)) (enAt l i) (hm _ (by omega)) (hm _ (by omega))
    obtain ⟨r, hE, hr⟩ := ordered_l0 l hl hk m (i + 1) (by omega) (.inl (by omega))
    by_cases c : cmpE (enAt l (i - 1)) (enAt l i) ≥ 0
    · refine ⟨false, Ev.step (fun k => (if_pos (by omega)).trans ((if_pos (by rw [e1]; omega)).trans ((if_pos (by rw [e1]; omega)).trans (if_pos (by omega))))) ?_, fun h => by cases h⟩
      rw [e1]
      exact Ev.bind hC (Ev.iteT c (Ev.now _))
    · refine ⟨r, Ev.step (fun k => (if_pos (by omega)).trans ((if_pos (by rw [e1]; omega)).trans ((if_pos (by rw [e1]; omega)).trans (if_pos (by omega))))) ?_, fun h j h3 h4 => ?_⟩
      · rw [e1]
        refine Ev.bind hC (Ev.iteF c ?_)
        rw [show wrap64 ((i : Int) + 1) = ((i + 1 : Nat) : Int) by rw [wrap64_id (by omega) (by omega)]; omega]
        exact hE
      · by_cases e : i = j
        · subst e; omega
        · exact hr h j (by omega) h4
theorem Ordered_ev (l : List En) (hl : l.length ≤ 100000) (hk : ∀ x ∈ l, x.f0.size ≤ 1000000) : ∃ r, Ev (fun k => cornucopialaw5_Ordered.f k l) r ∧ (r = true → ∀ j, 1 ≤ j → j < l.length → cmpE (enAt l (j - 1)) (enAt l j) < 0) := by
  rcases Nat.eq_zero_or_pos l.length with h | h
  · exact ordered_l0 l hl hk 0 1 (Nat.le_refl _) (.inr ⟨rfl, by omega⟩)
  · exact ordered_l0 l hl hk (l.length - 1) 1 (Nat.le_refl _) (.inl (by omega))
theorem same_l0 (l : List En) (hl : l.length ≤ 100000) : ∀ (m i : Nat), i + m = l.length → Ev (fun k => cornucopiabook_SameEntries.l0 k l l (i : Int)) true
  | 0, i, hi => Ev.step (fun k => if_neg (by omega)) (Ev.now _)
  | m + 1, i, hi => by
    refine Ev.step (fun k => (if_pos (by omega)).trans ((if_pos (by omega)).trans ((if_pos (by omega)).trans (if_pos (by simp))))) ?_
    rw [show wrap64 ((i : Int) + 1) = ((i + 1 : Nat) : Int) by rw [wrap64_id (by omega) (by omega)]; omega]
    exact same_l0 l hl m (i + 1) (by omega)
theorem Same_ev (l : List En) (hl : l.length ≤ 100000) : Ev (fun k => cornucopiabook_SameEntries.f k l l) true := by
  unfold cornucopiabook_SameEntries.f
  exact Ev.iteT rfl (same_l0 l hl l.length 0 (by omega))
end Go.Proofs.Ytdfaoafeojoceaa.Dr
