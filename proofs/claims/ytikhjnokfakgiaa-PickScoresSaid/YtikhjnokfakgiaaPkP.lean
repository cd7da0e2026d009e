/- What the printed Room, Small, Less, Valid, before answer, in plain words. -/
import Derived.Test.YtikhjnokfakgiaaPkT
import Derived.Test.YtikhjnokfakgiaaPAllx1
import Derived.Test.YtikhjnokfakgiaaPAllx3
set_option linter.unusedSimpArgs false
set_option linter.unusedVariables false
namespace Go.Proofs.Ytikhjnokfakgiaa.Pk
open Go.RowKit Go.Proofs.Ytikhjnokfakgiaa.Rw Go.Proofs.Ytikhjnokfakgiaa.PAll Go.Proofs.YtikhjnokfakgiaaW.PrintWords Go.Proofs.YtikhjnokfakgiaaW.PrintMore Go.Proofs.Ytikhjnokfakgiaa.Pb

def tbAt (l : List Tb) (k : Nat) : Tb := l.getD k z42
theorem tbAt_eq {l : List Tb} {k : Nat} {x : Tb} (h : l[k]? = some x) : tbAt l k = x := by unfold tbAt; rw [List.getD_eq_getElem?_getD, h]; rfl
def room2 (x a b : Int) : Int := if x < 0 then -1 else if a > x then -1 else if b > x - a then -1 else x - a - b
theorem Room_ev (x a b : Int) (h1 : -1 ≤ x) (h2 : x ≤ 20000) (ha : 0 ≤ a) (hb : 0 ≤ b) : Ev (fun k => cornucopiabook_Room.f k x [a, b]) (room2 x a b) := by
  unfold cornucopiabook_Room.f room2
  by_cases c1 : x < 0
  · rw [if_pos c1]
    exact Ev.step (fun k => (if_pos (by simp)).trans (if_pos c1)) (Ev.now _)
  rw [if_neg c1]
  by_cases c2 : a > x
  · rw [if_pos c2]
    exact Ev.step (fun k => (if_pos (by simp)).trans ((if_neg c1).trans ((if_pos (by simp)).trans (if_pos (by exact c2))))) (Ev.now _)
  rw [if_neg c2]
  refine Ev.step (fun k => (if_pos (by simp)).trans ((if_neg c1).trans ((if_pos (by simp)).trans (if_neg (by exact c2))))) ?_
  rw [show wrap64 (x - rd [a, b] 0) = x - a from wrap64_id (by show _ ≤ x - a; omega) (by show x - a ≤ _; omega), show wrap64 (0 + 1) = 1 from wrap64_id (by decide) (by decide)]
  by_cases c3 : b > x - a
  · rw [if_pos c3]
    exact Ev.step (fun k => (if_pos (by simp)).trans ((if_neg (by omega)).trans ((if_pos (by simp)).trans (if_pos (by exact c3))))) (Ev.now _)
  rw [if_neg c3]
  refine Ev.step (fun k => (if_pos (by simp)).trans ((if_neg (by omega)).trans ((if_pos (by simp)).trans (if_neg (by exact c3))))) ?_
  rw [show wrap64 (x - a - rd [a, b] 1) = x - a - b from wrap64_id (by show _ ≤ x - a - b; omega) (by show x - a - b ≤ _; omega), show wrap64 (1 + 1) = 2 from wrap64_id (by decide) (by decide)]
  exact Ev.step (fun k => if_neg (by simp)) (Ev.now _)
theorem small_l0 (l : List Tb) : ∀ (m i : Nat) (x : Int), i + m = l.length → x ≤ 9000 → -1 ≤ x → ∃ r, Ev (fun k => cornucopialaw12_Small.l0 k l x (i : Int)) r ∧ (r = true → l.length ≤ 40 ∧ 0 ≤ x ∧ ∀ j, i ≤ j → j < l.length → (tbAt l j).f3.size ≤ 9000 ∧ (tbAt l j).f4.size ≤ 9000)
  | 0, i, x, hi, h2, h1 => by
    by_cases c : (l.length : Int) ≤ 40
    · exact ⟨decide (x ≥ 0), Ev.step (fun k => (if_neg (by omega)).trans (if_pos c)) (Ev.now _), fun hr => ⟨by omega, of_decide_eq_true hr, fun j h3 h4 => by omega⟩⟩
    · exact ⟨false, Ev.step (fun k => (if_neg (by omega)).trans (if_neg c)) (Ev.now _), fun hr => by cases hr⟩
  | m + 1, i, x, hi, h2, h1 => by
    by_cases c4 : (i : Int) < 100
    · by_cases cx : x ≥ 0
      · have hR := Room_ev x ((tbAt l i).f3.size : Int) ((tbAt l i).f4.size : Int) h1 (by omega) (by omega) (by omega)
        have hr2 : room2 x ((tbAt l i).f3.size : Int) ((tbAt l i).f4.size : Int) ≤ 9000 ∧ -1 ≤ room2 x ((tbAt l i).f3.size : Int) ((tbAt l i).f4.size : Int) ∧ (0 ≤ room2 x ((tbAt l i).f3.size : Int) ((tbAt l i).f4.size : Int) → (tbAt l i).f3.size ≤ 9000 ∧ (tbAt l i).f4.size ≤ 9000) := by
          unfold room2
          rw [if_neg (by omega)]
          split
          · omega
          · split <;> omega
        obtain ⟨r, hE, hr⟩ := small_l0 l m (i + 1) (room2 x ((tbAt l i).f3.size : Int) ((tbAt l i).f4.size : Int)) (by omega) hr2.1 hr2.2.1
        refine ⟨r, Ev.step (fun k => (if_pos (by omega)).trans ((if_pos c4).trans ((if_pos cx).trans (if_pos (by omega))))) (Ev.bind hR ?_), fun h => ?_⟩
        · rw [show wrap64 ((i : Int) + 1) = ((i + 1 : Nat) : Int) by rw [wrap64_id (by omega) (by omega)]; omega]
          exact hE
        · obtain ⟨q1, q2, q3⟩ := hr h
          refine ⟨q1, by omega, fun j h3 h4 => ?_⟩
          by_cases e : i = j
          · subst e; exact hr2.2.2 q2
          · exact q3 j (by omega) h4
      · by_cases c : (l.length : Int) ≤ 40
        · exact ⟨decide (x ≥ 0), Ev.step (fun k => (if_pos (by omega)).trans ((if_pos c4).trans ((if_neg cx).trans (if_pos c)))) (Ev.now _), fun hr => absurd (of_decide_eq_true hr) cx⟩
        · exact ⟨false, Ev.step (fun k => (if_pos (by omega)).trans ((if_pos c4).trans ((if_neg cx).trans (if_neg c)))) (Ev.now _), fun hr => by cases hr⟩
    · exact ⟨false, Ev.step (fun k => (if_pos (by omega)).trans ((if_neg c4).trans (if_neg (by omega)))) (Ev.now _), fun hr => by cases hr⟩
theorem mem_tbAt {l : List Tb} {x : Tb} (h : x ∈ l) : ∃ j, j < l.length ∧ tbAt l j = x := by
  obtain ⟨j, hj, e⟩ := List.getElem_of_mem h
  exact ⟨j, hj, tbAt_eq (by rw [List.getElem?_eq_getElem hj, e])⟩
theorem Small_ev (l : List Tb) : ∃ r, Ev (fun k => cornucopialaw12_Small.f k l) r ∧ (r = true → l.length ≤ 40 ∧ ∀ x ∈ l, x.f3.size ≤ 9000 ∧ x.f4.size ≤ 9000) := by
  obtain ⟨r, hE, hr⟩ := small_l0 l l.length 0 9000 (by omega) (by omega) (by omega)
  refine ⟨r, hE, fun h => ?_⟩
  obtain ⟨q1, _, q3⟩ := hr h
  refine ⟨q1, fun x hx => ?_⟩
  obtain ⟨j, hj, e⟩ := mem_tbAt hx
  rw [← e]
  exact q3 j (Nat.zero_le _) hj
theorem lt_cons {a b : UInt8} {x y : List UInt8} : a :: x < b :: y ↔ a < b ∨ a = b ∧ x < y := List.cons_lt_cons_iff
theorem u8_int (a b : UInt8) : ((a.toNat : Int) < (b.toNat : Int)) ↔ a < b := by rw [UInt8.lt_iff_toNat_lt]; omega
theorem u8_eq (a b : UInt8) : ((a.toNat : Int) = (b.toNat : Int)) ↔ a = b := by
  constructor
  · intro h; exact UInt8.toNat_inj.1 (by omega)
  · rintro rfl; rfl
theorem less_l0 (a b : ByteArray) (ha : a.size ≤ 1000000) (hb : b.size ≤ 1000000) : ∀ (m i : Nat), i + m = a.size → Ev (fun k => cornucopiaref1_Less.l0 k a b (i : Int)) (decide ((ls a).drop i < (ls b).drop i))
  | 0, i, hi => by
    have e1 : (ls a).drop i = [] := List.drop_of_length_le (by rw [ls_length]; omega)
    refine Ev.step (fun k => if_neg (by omega)) ?_
    refine Ev.step (fun k => (cornucopiaref1_Less.j1.eq_2 _ _ _ _ _).trans (if_neg (by simp))) ?_
    rw [show decide ((a.size : Int) < (b.size : Int)) = decide ((ls a).drop i < (ls b).drop i) from decide_eq_decide.2 (by
      rw [e1]
      by_cases h : i < b.size
      · rw [drop_cons 0 (ls b) i (by rw [ls_length]; exact h)]
        exact ⟨fun _ => List.nil_lt_cons _ _, fun _ => by omega⟩
      · rw [List.drop_of_length_le (by rw [ls_length]; omega)]
        exact ⟨fun _ => by omega, fun h => absurd h (List.not_lt_nil _)⟩)]
    exact Ev.now _
  | m + 1, i, hi => by
    have ea := drop_cons 0 (ls a) i (by rw [ls_length]; omega)
    refine Ev.step (fun k => if_pos (by omega)) ?_
    by_cases h : i < b.size
    · have eb := drop_cons 0 (ls b) i (by rw [ls_length]; exact h)
      rw [decide_eq_true (show (i : Int) < (b.size : Int) by omega)]
      have e3 : ∀ s : ByteArray, bt s (i : Int) = (((ls s).getD i 0).toNat : Int) := fun s => by rw [bt_ls]; rfl
      rw [ea, eb]
      by_cases he : (ls a).getD i 0 = (ls b).getD i 0
      · refine Ev.step (fun k => (cornucopiaref1_Less.j1.eq_2 _ _ _ _ _).trans ((if_pos rfl).trans ((if_pos (by omega)).trans ((if_pos (by omega)).trans ((if_pos (by omega)).trans (if_pos (by rw [e3, e3, he]))))))) ?_
        rw [show wrap64 ((i : Int) + 1) = ((i + 1 : Nat) : Int) by rw [wrap64_id (by omega) (by omega)]; omega]
        have := less_l0 a b ha hb m (i + 1) (by omega)
        rw [show decide ((ls a).drop (i + 1) < (ls b).drop (i + 1)) = decide ((ls a).getD i 0 :: (ls a).drop (i + 1) < (ls b).getD i 0 :: (ls b).drop (i + 1)) from decide_eq_decide.2 (by
          rw [lt_cons, he]
          exact ⟨fun h => .inr ⟨rfl, h⟩, fun h => h.elim (fun h => absurd h (by simp)) (fun h => h.2)⟩)] at this
        exact this
      · refine Ev.step (fun k => (cornucopiaref1_Less.j1.eq_2 _ _ _ _ _).trans ((if_pos rfl).trans ((if_pos (by omega)).trans ((if_pos (by omega)).trans ((if_pos (by omega)).trans (if_neg (by rw [e3, e3, u8_eq]; exact he))))))) ?_
        rw [e3, e3, show decide ((((ls a).getD i 0).toNat : Int) < (((ls b).getD i 0).toNat : Int)) = decide ((ls a).getD i 0 :: (ls a).drop (i + 1) < (ls b).getD i 0 :: (ls b).drop (i + 1)) from decide_eq_decide.2 (by
          rw [lt_cons, u8_int]
          exact ⟨fun h => .inl h, fun h => h.elim id (fun h => absurd h.1 he)⟩)]
        exact Ev.now _
    · rw [decide_eq_false (show ¬ (i : Int) < (b.size : Int) by omega)]
      refine Ev.step (fun k => (cornucopiaref1_Less.j1.eq_2 _ _ _ _ _).trans (if_neg (by simp))) ?_
      rw [show decide ((a.size : Int) < (b.size : Int)) = decide ((ls a).drop i < (ls b).drop i) from decide_eq_decide.2 (by
        rw [List.drop_of_length_le (l := ls b) (by rw [ls_length]; omega)]
        exact ⟨fun _ => by omega, fun h => absurd h (List.not_lt_nil _)⟩)]
      exact Ev.now _
theorem Less_ev (a b : ByteArray) (ha : a.size ≤ 1000000) (hb : b.size ≤ 1000000) : Ev (fun k => cornucopiaref1_Less.f k a b) (decide (ls a < ls b)) := by
  have := less_l0 a b ha hb a.size 0 (by omega)
  rw [List.drop_zero, List.drop_zero] at this
  exact this

/-- Some answer, and what a yes says. -/
def E1 (F : Nat → Option Bool) (P : Prop) : Prop := ∃ r, Ev F r ∧ (r = true → P)
theorem E1.now (P : Prop) (b : Bool) (h : b = true → P) : E1 (fun _ => some b) P := ⟨b, Ev.now _, h⟩
theorem E1.ite {c : Prop} [Decidable c] {F G : Nat → Option Bool} {P : Prop} (h1 : c → E1 F P) (h2 : ¬ c → E1 G P) : E1 (fun k => if c then F k else G k) P := by
  by_cases hc : c
  · obtain ⟨r, h, hp⟩ := h1 hc; exact ⟨r, Ev.iteT hc h, hp⟩
  · obtain ⟨r, h, hp⟩ := h2 hc; exact ⟨r, Ev.iteF hc h, hp⟩
theorem E1.step {F G : Nat → Option Bool} {P : Prop} (h : ∀ k, F (k + 1) = G k) (hG : E1 G P) : E1 F P := by
  obtain ⟨r, h1, hp⟩ := hG
  exact ⟨r, Ev.step h h1, hp⟩
theorem E1.bind {α : Type} {g : Nat → Option α} {F : Nat → α → Option Bool} {a : α} {P : Prop} (h : Ev g a) (hF : E1 (fun k => F k a) P) : E1 (fun k => (g k).bind (F k)) P := by
  obtain ⟨r, h1, hp⟩ := hF
  exact ⟨r, Ev.bind h h1, hp⟩
theorem E1.weak {F : Nat → Option Bool} {P Q : Prop} (h : E1 F P) (hpq : P → Q) : E1 F Q := by
  obtain ⟨r, h1, hp⟩ := h
  exact ⟨r, h1, fun e => hpq (hp e)⟩
/-- Is a table's size right, for all from i on? -/
def okFrom (l : List Tb) (i : Nat) : Prop := ∀ j, i ≤ j → j < l.length → 1 ≤ (tbAt l j).f2 ∧ (tbAt l j).f2 ≤ 1099511627776
section
variable {a b c : Int} {l : List Tb} (hl : l.length ≤ 40) (hs : ∀ x ∈ l, x.f3.size ≤ 9000 ∧ x.f4.size ≤ 9000)
include hl hs
omit hl in
theorem tb_in {i : Nat} (hi : i < l.length) : (tbAt l i).f3.size ≤ 9000 ∧ (tbAt l i).f4.size ≤ 9000 := by
  rw [tbAt_eq (List.getElem?_eq_getElem hi)]
  exact hs _ (List.getElem_mem _)
theorem valid_l1 (i : Nat) (hi : i < l.length) {P : Prop} (hE : E1 (fun k => cornucopiaref12_Valid.l0 k ((i + 1 : Nat) : Int) a b c l) P) : ∀ (m j : Nat), j + m = i → E1 (fun k => cornucopiaref12_Valid.l1 k (i : Int) (j : Int) a b c l (tbAt l i).f0 (tbAt l i).f1 (tbAt l i).f2 (tbAt l i).f3 (tbAt l i).f4) P
  | 0, j, hj => by
    refine E1.step (fun k => (if_neg (by omega))) ?_
    rw [show wrap64 ((i : Int) + 1) = ((i + 1 : Nat) : Int) by rw [wrap64_id (by omega) (by omega)]; omega]
    exact hE
  | m + 1, j, hj => by
    have hsi := tb_in hs hi
    have hsj := tb_in hs (show j < l.length by omega)
    have ih := valid_l1 i hi hE m (j + 1) (by omega)
    refine E1.step (fun k => (if_pos (by omega)).trans ((if_pos (by omega)).trans (if_pos (by omega)))) ?_
    rw [show wrap64 ((j : Int) + 1) = ((j + 1 : Nat) : Int) by rw [wrap64_id (by omega) (by omega)]; omega]
    refine E1.ite (fun _ => E1.now _ _ (fun e => (by cases e))) (fun _ => E1.ite (fun _ => E1.ite (fun _ => ?_) (fun _ => ih)) (fun _ => ih))
    refine E1.bind (Less_ev _ _ (Nat.le_trans hsj.2 (by decide)) (Nat.le_trans hsi.1 (by decide))) (E1.ite (fun _ => ih) (fun _ => ?_))
    exact E1.bind (Less_ev _ _ (Nat.le_trans hsi.2 (by decide)) (Nat.le_trans hsj.1 (by decide))) (E1.ite (fun _ => ih) (fun _ => E1.now _ _ (fun e => (by cases e))))
theorem valid_l0 : ∀ (m i : Nat), i + m = l.length → E1 (fun k => cornucopiaref12_Valid.l0 k (i : Int) a b c l) (okFrom l i)
  | 0, i, hi => E1.step (fun k => if_neg (by omega)) (E1.now _ _ (fun _ j h1 h2 => by omega))
  | m + 1, i, hi => by
    have hil : i < l.length := by omega
    have hsi := tb_in hs hil
    have ih := valid_l1 (a := a) (b := b) (c := c) hl hs i hil (valid_l0 m (i + 1) (by omega)) i 0 (by omega)
    have hF : ∀ P : Prop, E1 (fun k => cornucopiaref12_Valid.j2 k (i : Int) true a b c l (tbAt l i).f0 (tbAt l i).f1 (tbAt l i).f2 (tbAt l i).f3 (tbAt l i).f4) P := fun P => E1.step (G := fun _ => some false) (fun k => by simp [cornucopiaref12_Valid.j2]) (E1.now _ _ (fun e => (by cases e)))
    have hG : ∀ d : Bool, 1 ≤ (tbAt l i).f2 → (tbAt l i).f2 ≤ 1099511627776 → E1 (fun k => cornucopiaref12_Valid.j2 k (i : Int) d a b c l (tbAt l i).f0 (tbAt l i).f1 (tbAt l i).f2 (tbAt l i).f3 (tbAt l i).f4) (okFrom l i) := fun d h1 h2 => by
      cases d
      · refine E1.step (G := fun k => cornucopiaref12_Valid.l1 k (i : Int) ((0 : Nat) : Int) a b c l (tbAt l i).f0 (tbAt l i).f1 (tbAt l i).f2 (tbAt l i).f3 (tbAt l i).f4) (fun k => by simp [cornucopiaref12_Valid.j2]) (ih.weak fun h j h3 h4 => ?_)
        by_cases e : i = j
        · subst e; exact ⟨h1, h2⟩
        · exact h j (by omega) h4
      · exact hF _
    refine E1.step (fun k => (if_pos (by omega)).trans (if_pos (by omega))) ?_
    refine E1.ite (fun _ => hF _) fun _ => E1.ite (fun _ => hF _) fun _ => E1.ite (fun _ => hF _) fun _ => E1.ite (fun _ => hF _) fun _ => E1.ite (fun _ => hF _) fun h1 => E1.ite (fun _ => hF _) fun h2 => ?_
    have h1 : 1 ≤ (tbAt l i).f2 := Int.not_lt.1 h1
    have h2 : (tbAt l i).f2 ≤ 1099511627776 := Int.not_lt.1 h2
    refine E1.bind (Less_ev _ _ (Nat.le_trans hsi.2 (by decide)) (Nat.le_trans hsi.1 (by decide))) (E1.ite (fun _ => hF _) fun _ => E1.ite (fun _ => hF _) fun _ => hG _ h1 h2)
theorem Valid_ev (a b c : Int) : ∃ r, Ev (fun k => cornucopiaref12_Valid.f k a b c l) r ∧ (r = true → ∀ x ∈ l, 1 ≤ x.f2 ∧ x.f2 ≤ 1099511627776) := by
  have h0 : ∀ d : Bool, E1 (fun k => cornucopiaref12_Valid.j0 k d a b c l) (okFrom l 0) := fun d => by
    cases d
    · exact E1.step (G := fun k => cornucopiaref12_Valid.l0 k ((0 : Nat) : Int) a b c l) (fun k => by simp [cornucopiaref12_Valid.j0]) (valid_l0 hl hs l.length 0 (by omega))
    · exact E1.step (G := fun _ => some false) (fun k => by simp [cornucopiaref12_Valid.j0]) (E1.now _ _ (fun e => (by cases e)))
  have : E1 (fun k => cornucopiaref12_Valid.f k a b c l) (okFrom l 0) := by
    unfold cornucopiaref12_Valid.f
    exact E1.ite (fun _ => h0 _) fun _ => E1.ite (fun _ => h0 _) fun _ => E1.ite (fun _ => h0 _) fun _ => E1.ite (fun _ => h0 _) fun _ => h0 _
  obtain ⟨r, h, hp⟩ := this
  refine ⟨r, h, fun e x hx => ?_⟩
  obtain ⟨j, hj, rfl⟩ := mem_tbAt hx
  exact hp e j (Nat.zero_le _) hj
end
end Go.Proofs.Ytikhjnokfakgiaa.Pk
