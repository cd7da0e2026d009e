/- What the printed on, Room, Score answer, in plain words. -/
import Derived.Test.YtikhjnokfakgiaaPkP
import Derived.Test.YtikhjnokfakgiaaPAllx5
set_option linter.unusedSimpArgs false
set_option linter.unusedVariables false
namespace Go.Proofs.Ytikhjnokfakgiaa.Pk
open Go.RowKit Go.Proofs.Ytikhjnokfakgiaa.Rw Go.Proofs.Ytikhjnokfakgiaa.PAll Go.Proofs.YtikhjnokfakgiaaW.PrintWords Go.Proofs.YtikhjnokfakgiaaW.PrintMore Go.Proofs.Ytikhjnokfakgiaa.Pb

def onP (l : List Tb) (v : Int) : List Tb := l.filter fun x => decide (x.f1 = v)
theorem tb_take {l : List Tb} {i : Nat} (hi : i < l.length) : l.take (i + 1) = l.take i ++ [tbAt l i] := by
  obtain ⟨x, hx⟩ : ∃ x, l[i]? = some x := ⟨_, List.getElem?_eq_getElem hi⟩
  rw [List.take_add_one, hx, tbAt_eq hx]; rfl
theorem on_l0 (l : List Tb) (v : Int) (hl : l.length ≤ 100000) : ∀ (m i : Nat), i + m = l.length → Ev (fun k => pick_on.l0 k v (onP (l.take i) v) l (l.length : Int) (i : Int)) (onP l v)
  | 0, i, hi => by
    rw [List.take_of_length_le (by omega)]
    exact Ev.step (fun k => if_neg (by omega)) (Ev.now _)
  | m + 1, i, hi => by
    have hil : i < l.length := by omega
    have ih := on_l0 l v hl m (i + 1) (by omega)
    have hlen : (onP (l.take i) v).length ≤ 100000 := Nat.le_trans (List.length_filter_le _ _) (by rw [List.length_take]; omega)
    rw [tb_take hil] at ih
    have e : wrap64 ((i : Int) + 1) = ((i + 1 : Nat) : Int) := by rw [wrap64_id (by omega) (by omega)]; omega
    by_cases h : (tbAt l i).f1 = v
    · have e2 : onP (l.take i ++ [tbAt l i]) v = onP (l.take i) v ++ [tbAt l i] := by unfold onP; rw [List.filter_append]; simp [h]
      rw [e2] at ih
      refine Ev.step (fun k => (if_pos (by omega)).trans ((if_pos (by omega)).trans ((if_pos (by omega)).trans ((if_pos (by exact h)).trans (if_pos (by omega)))))) ?_
      rw [e]
      exact ih
    · have e2 : onP (l.take i ++ [tbAt l i]) v = onP (l.take i) v := by unfold onP; rw [List.filter_append]; simp [h]
      rw [e2] at ih
      refine Ev.step (fun k => (if_pos (by omega)).trans ((if_pos (by omega)).trans ((if_pos (by omega)).trans (if_neg (by exact h))))) ?_
      rw [e]
      exact ih
theorem On_ev (a b c : Int) (l : List Tb) (v : Int) (hl : l.length ≤ 100000) : Ev (fun k => pick_on.f k a b c l v) (onP l v) := by
  have := on_l0 l v hl l.length 0 (by omega)
  exact this
theorem Room1 : Ev (fun k => pick_Room.f k 1) 3000 := ⟨5, fun k hk => by
  obtain ⟨j, rfl⟩ : ∃ j, k = j + 5 := ⟨k - 5, by omega⟩
  simp [pick_Room.f, pick_Room.j0, pick_Room.l0, wrap64]⟩
theorem Room2 : Ev (fun k => pick_Room.f k 2) 30000 := ⟨5, fun k hk => by
  obtain ⟨j, rfl⟩ : ∃ j, k = j + 5 := ⟨k - 5, by omega⟩
  simp [pick_Room.f, pick_Room.j0, pick_Room.l0, wrap64]⟩
/-- Sizes in all. -/
def sumP (l : List Tb) : Int := (l.map fun x => x.f2).foldr (· + ·) 0
theorem sumP_app (a b : List Tb) : sumP (a ++ b) = sumP a + sumP b := by
  induction a with
  | nil => simp [sumP]
  | cons x r ih =>
    have : sumP (x :: r ++ b) = x.f2 + sumP (r ++ b) := rfl
    rw [this, ih]
    show _ = x.f2 + sumP r + sumP b
    omega
abbrev Fit (l : List Tb) : Prop := ∀ x ∈ l, 1 ≤ x.f2 ∧ x.f2 ≤ 1099511627776
theorem sumP_bd {l : List Tb} (h : Fit l) : 0 ≤ sumP l ∧ sumP l ≤ (l.length : Int) * 1099511627776 := by
  induction l with
  | nil => exact ⟨Int.le_refl _, by simp [sumP]⟩
  | cons x r ih =>
    have h1 := h x (List.mem_cons_self ..)
    have h2 := ih (fun y hy => h y (List.mem_cons_of_mem _ hy))
    have : sumP (x :: r) = x.f2 + sumP r := rfl
    rw [this, List.length_cons]
    omega
theorem on_fit {l : List Tb} (h : Fit l) (v : Int) : Fit (onP l v) := fun x hx => h x (List.mem_filter.1 hx).1
theorem on_len (l : List Tb) (v : Int) : (onP l v).length ≤ l.length := List.length_filter_le _ _
theorem u64_id {x : Int} (h0 : 0 ≤ x) (h1 : x < 18446744073709551616) : IntKind.u64.wrap x = x := by
  simp only [IntKind.wrap, IntKind.signed, IntKind.bits]
  first
    | (simp; omega)
    | omega
/-- How much a number of bytes is, of a room. -/
def part (n room : Int) : Int := if 1099511627776 < 100 * n / room then 1099511627776 else 100 * n / room
theorem part_eq {n room : Int} (hn : 0 ≤ n) (h2 : n ≤ 70368744177664) (hr : 1 ≤ room) (hr2 : room ≤ 30000) : wrap64 (mn 1099511627776 (IntKind.u64.wrap ((IntKind.u64.wrap ((IntKind.u64.wrap (wrap64 (Int.tdiv n room))) * 100)) + (IntKind.u64.wrap (Int.tdiv (IntKind.u64.wrap ((IntKind.u64.wrap (Int.tmod n room)) * 100)) (IntKind.u64.wrap (room))))))) = part n room := by
  rw [Int.tdiv_eq_ediv_of_nonneg hn, Int.tmod_eq_emod_of_nonneg hn]
  have hq0 : 0 ≤ n / room := Int.ediv_nonneg hn (by omega)
  have hq1 : n / room ≤ n := Int.ediv_le_self _ hn
  have hm0 : 0 ≤ n % room := Int.emod_nonneg _ (by omega)
  have hm1 : n % room < room := Int.emod_lt_of_pos _ (by omega)
  rw [wrap64_id (x := n / room) (by omega) (by omega), u64_id hq0 (by omega), u64_id (x := n / room * 100) (by omega) (by omega), u64_id hm0 (by omega), u64_id (x := n % room * 100) (by omega) (by omega), u64_id (x := room) (by omega) (by omega), Int.tdiv_eq_ediv_of_nonneg (by omega)]
  have hp0 : 0 ≤ n % room * 100 / room := Int.ediv_nonneg (by omega) (by omega)
  have hp1 : n % room * 100 / room ≤ n % room * 100 := Int.ediv_le_self _ (by omega)
  rw [u64_id hp0 (by omega), u64_id (x := n / room * 100 + n % room * 100 / room) (by omega) (by omega)]
  have key : n / room * 100 + n % room * 100 / room = 100 * n / room := by
    have e : 100 * n = n % room * 100 + room * (n / room * 100) := by
      have := Int.emod_add_mul_ediv n room
      conv => lhs; rw [← this]
      rw [Int.mul_add, Int.mul_comm 100 (n % room), Int.mul_left_comm 100, Int.mul_comm 100 (n / room)]
    rw [e, Int.add_mul_ediv_left _ _ (by omega), Int.add_comm]
  rw [key] at *
  unfold part mn
  have : 100 * n / room ≤ 100 * n := Int.ediv_le_self _ (by omega)
  have : 0 ≤ 100 * n / room := Int.ediv_nonneg (by omega) (by omega)
  split <;> split <;> first | (rw [wrap64_id (by omega) (by omega)]; try omega) | omega
def scoreP (l : List Tb) (v : Int) : Int := if v = 0 then 25 * ((onP l 0).length : Int) else if v = 1 then part (sumP (onP l 1)) 3000 else if v = 2 then part (sumP (onP l 2)) 30000 else 0
theorem score_l0 (l : List Tb) (v : Int) (hl : l.length ≤ 40) (hf : Fit l) {room : Int} (hR : Ev (fun k => pick_Room.f k v) room) (hr : 1 ≤ room) (hr2 : room ≤ 30000) : ∀ (m i : Nat), i + m = l.length → Ev (fun k => pick_Score.l0 k v (sumP (l.take i)) l (l.length : Int) (i : Int)) (part (sumP l) room)
  | 0, i, hi => by
    rw [List.take_of_length_le (by omega)]
    refine Ev.step (fun k => if_neg (by omega)) (Ev.bind hR ?_)
    have hb := sumP_bd hf
    refine Ev.iteF (by omega) (Ev.iteF (by rw [u64_id (by omega) (by omega)]; omega) ?_)
    rw [part_eq hb.1 (by omega) hr hr2]
    exact Ev.now _
  | m + 1, i, hi => by
    have hil : i < l.length := by omega
    have ih := score_l0 l v hl hf hR hr hr2 m (i + 1) (by omega)
    have hft : Fit (l.take i) := fun x hx => hf x (List.mem_of_mem_take hx)
    have hb := sumP_bd hft
    rw [List.length_take] at hb
    have hx := hf (tbAt l i) (by rw [tbAt_eq (List.getElem?_eq_getElem hil)]; exact List.getElem_mem _)
    rw [tb_take hil, sumP_app, show sumP [tbAt l i] = (tbAt l i).f2 by simp [sumP]] at ih
    have e : wrap64 ((i : Int) + 1) = ((i + 1 : Nat) : Int) := by rw [wrap64_id (by omega) (by omega)]; omega
    have hb2 : sumP (l.take i) ≤ 43980465111040 := by omega
    have e1 : wrap64 (4611686018427387904 - sumP (l.take i)) = 4611686018427387904 - sumP (l.take i) := wrap64_id (by omega) (by omega)
    have e2 : wrap64 (sumP (l.take i) + (tbAt l i).f2) = sumP (l.take i) + (tbAt l i).f2 := wrap64_id (by omega) (by omega)
    refine Ev.step (fun k => (if_pos (by omega)).trans ((if_pos (by omega)).trans ((if_pos (by omega)).trans (if_neg (by rw [e1]; show ¬ (tbAt l i).f2 > _; omega))))) ?_
    rw [e]
    show Ev (fun k => pick_Score.l0 k v (wrap64 (sumP (l.take i) + (tbAt l i).f2)) l (l.length : Int) ((i + 1 : Nat) : Int)) _
    rw [e2]
    exact ih
theorem Score_ev (a b c : Int) (l : List Tb) (v : Int) (hl : l.length ≤ 40) (hf : Fit l) (hv : v = 0 ∨ v = 1 ∨ v = 2 ∨ v = 3) : Ev (fun k => pick_Score.f k a b c l v) (scoreP l v) := by
  unfold pick_Score.f
  refine Ev.bind (On_ev a b c l v (by omega)) ?_
  have hol := on_len l v
  rcases hv with rfl | rfl | rfl | rfl
  · refine Ev.iteT rfl ?_
    have : wrap64 (Int.tdiv (wrap64 (100 * ((onP l 0).length : Int))) 4) = 25 * ((onP l 0).length : Int) := by
      rw [wrap64_id (x := 100 * ((onP l 0).length : Int)) (by omega) (by omega), Int.tdiv_eq_ediv_of_nonneg (by omega), wrap64_id (by omega) (by omega)]
      omega
    rw [this]
    have e : mn (25 * ((onP l 0).length : Int)) 1099511627776 = scoreP l 0 := by
      unfold mn scoreP
      rw [if_pos rfl]
      split <;> omega
    rw [e]
    exact Ev.now _
  · refine Ev.iteF (by decide) (Ev.iteF (by decide) (Ev.iteF (by decide) ?_))
    exact score_l0 (onP l 1) 1 (by omega) (on_fit hf _) Room1 (by decide) (by decide) (onP l 1).length 0 (by omega)
  · refine Ev.iteF (by decide) (Ev.iteF (by decide) (Ev.iteF (by decide) ?_))
    exact score_l0 (onP l 2) 2 (by omega) (on_fit hf _) Room2 (by decide) (by decide) (onP l 2).length 0 (by omega)
  · exact Ev.iteF (by decide) (Ev.iteF (by decide) (Ev.iteT (by decide) (Ev.now _)))
/-! ### with one table less no score rises -/
theorem part_mono {n m room : Int} (h : n ≤ m) (hr : 1 ≤ room) : part n room ≤ part m room := by
  have : 100 * n / room ≤ 100 * m / room := Int.ediv_le_ediv (by omega) (by omega)
  unfold part
  split <;> split <;> omega
theorem sub_len {a b : List Tb} (h : a.Sublist b) (v : Int) : (onP a v).length ≤ (onP b v).length := (h.filter _).length_le
theorem sub_sum {a b : List Tb} (h : a.Sublist b) (hf : Fit b) : sumP a ≤ sumP b := by
  induction h with
  | slnil => exact Int.le_refl _
  | cons x h ih =>
    have := ih (fun y hy => hf y (List.mem_cons_of_mem _ hy))
    have h1 := hf _ (List.mem_cons_self ..)
    rename_i l1 l2
    have e : sumP (x :: l2) = x.f2 + sumP l2 := rfl
    omega
  | cons_cons x h ih =>
    have := ih (fun y hy => hf y (List.mem_cons_of_mem _ hy))
    rename_i l1 l2
    have e : sumP (x :: l2) = x.f2 + sumP l2 := rfl
    have e2 : sumP (x :: l1) = x.f2 + sumP l1 := rfl
    omega
theorem score_sub {a b : List Tb} (h : a.Sublist b) (hf : Fit b) (v : Int) : scoreP a v ≤ scoreP b v := by
  have h0 := sub_len h 0
  have hs : ∀ v, sumP (onP a v) ≤ sumP (onP b v) := fun v => sub_sum (h.filter _) (on_fit hf v)
  unfold scoreP
  split
  · omega
  · split
    · exact part_mono (hs 1) (by decide)
    · split
      · exact part_mono (hs 2) (by decide)
      · exact Int.le_refl _
theorem score_on {l : List Tb} {v : Int} (h : 100 ≤ scoreP l v) : onP l v ≠ [] := by
  intro e
  unfold scoreP at h
  have hp : ∀ r, 1 ≤ r → part 0 r = 0 := fun r hr => by
    unfold part
    simp
  split at h
  · rename_i hv; subst hv; rw [e] at h; simp at h
  · split at h
    · rename_i hv; subst hv; rw [e] at h; rw [show sumP [] = 0 from rfl, hp _ (by decide)] at h; omega
    · split at h
      · rename_i hv; subst hv; rw [e] at h; rw [show sumP [] = 0 from rfl, hp _ (by decide)] at h; omega
      · omega
theorem score_bd (l : List Tb) (v : Int) (hl : l.length ≤ 40) (hf : Fit l) : 0 ≤ scoreP l v ∧ scoreP l v ≤ 1099511627776 := by
  have h1 := on_len l 0
  have hp : ∀ n r, 0 ≤ n → 1 ≤ r → 0 ≤ part n r ∧ part n r ≤ 1099511627776 := fun n r hn hr => by
    have : 0 ≤ 100 * n / r := Int.ediv_nonneg (by omega) (by omega)
    unfold part
    split <;> omega
  unfold scoreP
  split
  · omega
  · split
    · exact hp _ _ (sumP_bd (on_fit hf _)).1 (by decide)
    · split
      · exact hp _ _ (sumP_bd (on_fit hf _)).1 (by decide)
      · omega
/-! ### the greatest score -/
def nx (s : Nat → Int) : Nat → Int × Int
  | 0 => (0, 0)
  | k + 1 => if (nx s k).2 < s k then ((k : Int), s k) else nx s k
def lw (s : Nat → Int) : Nat → Int × Int
  | 0 => (99, -1)
  | k + 1 => if (lw s k).1 < s k then (s k, (k : Int)) else lw s k
theorem nx_lw (s : Nat → Int) : ∀ k, ((nx s k).2 < 100 ∧ lw s k = (99, -1)) ∨ (100 ≤ (nx s k).2 ∧ lw s k = ((nx s k).2, (nx s k).1) ∧ ∃ j : Nat, j < k ∧ (nx s k).1 = (j : Int) ∧ (nx s k).2 = s j)
  | 0 => .inl ⟨by show (0 : Int) < 100; decide, rfl⟩
  | k + 1 => by
    rcases nx_lw s k with ⟨h1, h2⟩ | ⟨h1, h2, j, h3, h4, h5⟩
    · by_cases hs : 99 < s k
      · refine .inr ?_
        have e : nx s (k + 1) = ((k : Int), s k) := if_pos (by omega)
        have e2 : lw s (k + 1) = (s k, (k : Int)) := by show (if (lw s k).1 < s k then _ else _) = _; rw [h2]; exact if_pos hs
        rw [e, e2]
        exact ⟨by show 100 ≤ s k; omega, rfl, k, by omega, rfl, rfl⟩
      · refine .inl ?_
        have e2 : lw s (k + 1) = (99, -1) := by show (if (lw s k).1 < s k then _ else lw s k) = _; rw [h2]; exact if_neg hs
        refine ⟨?_, e2⟩
        show (if (nx s k).2 < s k then ((k : Int), s k) else nx s k).2 < 100
        split
        · show s k < 100; omega
        · exact h1
    · refine .inr ?_
      by_cases hs : (nx s k).2 < s k
      · have e : nx s (k + 1) = ((k : Int), s k) := if_pos hs
        have e2 : lw s (k + 1) = (s k, (k : Int)) := by show (if (lw s k).1 < s k then _ else _) = _; rw [h2]; exact if_pos hs
        rw [e, e2]
        exact ⟨by show 100 ≤ s k; omega, rfl, k, by omega, rfl, rfl⟩
      · have e : nx s (k + 1) = nx s k := if_neg hs
        have e2 : lw s (k + 1) = lw s k := by show (if (lw s k).1 < s k then _ else lw s k) = _; rw [h2]; exact if_neg hs
        rw [e, e2]
        exact ⟨h1, h2, j, by omega, h4, h5⟩
end Go.Proofs.Ytikhjnokfakgiaa.Pk
