/- SumBack: frames are found as they were, whatever of the next one is cut off; what is found is whole (plain words; the walk stands in the printed text). -/
import Derived.Test.YtghfkihmiamblaaPAllx1
import Derived.Test.YtghfkihmiamblaaPAllx7
import Derived.Test.YtghfkihmiamblaaPAllx8
import Derived.Test.YtghfkihmiamblaaSum1
set_option linter.unusedSimpArgs false
set_option linter.unusedVariables false
namespace Go.Proofs.Ytghfkihmiamblaa.Pure
open Go.RowKit Go.Proofs.Ytghfkihmiamblaa.PAll Go.Proofs.YtghfkihmiamblaaW.PrintWords Go.Proofs.YtghfkihmiamblaaW.PrintMore Go.Proofs.Ytghfkihmiamblaa.Pb

theorem alive_ev : Ev (fun k => cornucopialaw3_alive.f k) true := Ev.of (fun k => cornucopialaw3_alive.mono k) (k := 300) (by decide +kernel)

theorem Room_ev (x n : Int) (hx : -1 ≤ x) (hx2 : x ≤ 1000000) (hn : 0 ≤ n) (hn2 : n ≤ 140737488355328) : Ev (fun k => cornucopiabook_Room.f k x [n]) (if x < 0 then -1 else if n > x then -1 else x - n) := by
  have hr : rd [n] 0 = n := rfl
  unfold cornucopiabook_Room.f
  by_cases c : x < 0
  · rw [if_pos c]
    exact Ev.step (fun k => (if_pos (by simp)).trans (if_pos c)) (Ev.now _)
  rw [if_neg c]
  by_cases c2 : n > x
  · rw [if_pos c2]
    exact Ev.step (fun k => (if_pos (by simp)).trans ((if_neg c).trans ((if_pos (by omega)).trans (if_pos (by rw [hr]; exact c2))))) (Ev.now _)
  rw [if_neg c2]
  refine Ev.step (fun k => (if_pos (by simp)).trans ((if_neg c).trans ((if_pos (by omega)).trans (if_neg (by rw [hr]; exact c2))))) ?_
  rw [hr, wrap64_id (x := x - n) (by omega) (by omega)]
  exact Ev.step (fun k => if_neg (by rw [wrap64_id (by omega) (by omega)]; simp)) (Ev.now _)
theorem Short_l0 (l : List ByteArray) (hl : l.length ≤ 9223372036854775806) (hz : ∀ s ∈ l, s.size ≤ 140737488355328) : ∀ (n i : Nat) (x : Int), i + n = l.length → -1 ≤ x → x ≤ 1000000 →
    ∃ b : Bool, Ev (fun k => cornucopiabook_Short.l0 k x l (i : Int)) b ∧ (b = true → 0 ≤ x ∧ ∀ s ∈ l.drop i, (s.size : Int) ≤ x)
  | 0, i, x, hi, h1, h2 => by
    refine ⟨decide (x ≥ 0), Ev.step (fun k => if_neg (by omega)) (Ev.now _), fun h => ⟨by simpa using h, fun s hs => ?_⟩⟩
    rw [List.drop_of_length_le (by omega)] at hs
    simp at hs
  | n + 1, i, x, hi, h1, h2 => by
    by_cases c : x ≥ 0
    · have hm : l.getD i ByteArray.empty ∈ l := by
        rw [List.getD_eq_getElem?_getD, List.getElem?_eq_getElem (by omega)]
        exact List.getElem_mem _
      have hr := Room_ev x ((l.getD i ByteArray.empty).size : Int) h1 h2 (by omega) (by have := hz _ hm; omega)
      rw [if_neg (by omega)] at hr
      have hd := drop_cons ByteArray.empty l i (by omega)
      by_cases c2 : ((l.getD i ByteArray.empty).size : Int) > x
      · rw [if_pos c2] at hr
        obtain ⟨b, hb, hbt⟩ := Short_l0 l hl hz n (i + 1) (-1) (by omega) (by omega) (by omega)
        refine ⟨b, Ev.step (fun k => (if_pos (by omega)).trans ((if_pos c).trans (if_pos (by omega)))) (Ev.bind hr ?_), fun h => ?_⟩
        · skip
          rw [wrap64_id (x := (i : Int) + 1) (by omega) (by omega)]
          exact hb
        · have := (hbt h).1; omega
      · rw [if_neg c2] at hr
        obtain ⟨b, hb, hbt⟩ := Short_l0 l hl hz n (i + 1) (x - ((l.getD i ByteArray.empty).size : Int)) (by omega) (by omega) (by omega)
        refine ⟨b, Ev.step (fun k => (if_pos (by omega)).trans ((if_pos c).trans (if_pos (by omega)))) (Ev.bind hr ?_), fun h => ⟨c, fun s hs => ?_⟩⟩
        · skip
          rw [wrap64_id (x := (i : Int) + 1) (by omega) (by omega)]
          exact hb
        · rw [hd] at hs
          rcases List.mem_cons.1 hs with rfl | hs
          · omega
          · have := (hbt h).2 s hs; omega
    · refine ⟨decide (x ≥ 0), Ev.step (fun k => (if_pos (by omega)).trans (if_neg c)) (Ev.now _), fun h => absurd (by simpa using h) c⟩
theorem Short_ev (few room : Int) (l : List ByteArray) (hl : l.length ≤ 9223372036854775806) (hz : ∀ s ∈ l, s.size ≤ 140737488355328) (h1 : 0 ≤ room) (h2 : room ≤ 1000000) :
    ∃ b : Bool, Ev (fun k => cornucopiabook_Short.f k few room l) b ∧ (b = true → (l.length : Int) ≤ few ∧ ∀ s ∈ l, (s.size : Int) ≤ room) := by
  unfold cornucopiabook_Short.f
  by_cases c : (l.length : Int) > few
  · exact ⟨false, Ev.iteT c (Ev.now _), fun h => by cases h⟩
  · obtain ⟨b, hb, hbt⟩ := Short_l0 l hl hz l.length 0 room (by omega) (by omega) h2
    exact ⟨b, Ev.iteF c hb, fun h => ⟨by omega, (hbt h).2⟩⟩

theorem Same_l0 (l : List ByteArray) (hl : l.length ≤ 9223372036854775806) : ∀ (n i : Nat), i + n = l.length → Ev (fun k => cornucopiabook_SameTexts.l0 k l l (i : Int)) true
  | 0, i, hi => Ev.step (fun k => if_neg (by omega)) (Ev.now _)
  | n + 1, i, hi => by
    refine Ev.step (fun k => (if_pos (by omega)).trans ((if_pos (by omega)).trans ((if_pos (by omega)).trans (if_pos rfl)))) ?_
    rw [wrap64_id (x := (i : Int) + 1) (by omega) (by omega)]
    exact Same_l0 l hl n (i + 1) (by omega)
theorem Same_ev (l : List ByteArray) (hl : l.length ≤ 9223372036854775806) : Ev (fun k => cornucopiabook_SameTexts.f k l l) true := by
  unfold cornucopiabook_SameTexts.f
  exact Ev.iteT rfl (Same_l0 l hl l.length 0 (by omega))

theorem frames_le : ∀ (l : List ByteArray), (∀ s ∈ l, s.size ≤ 6000) → (frames l).length ≤ 6008 * l.length
  | [], _ => by simp
  | s :: l, h => by
    have h1 := h s (by simp)
    have := frames_le l (fun x hx => h x (by simp [hx]))
    rw [frames_cons, List.length_append, frame_length, List.length_cons]
    omega
theorem frames_take : ∀ (l : List ByteArray) (j : Nat), (frames l).take (frames (l.take j)).length = frames (l.take j)
  | [], j => by simp
  | s :: l, 0 => by simp
  | s :: l, j + 1 => by
    rw [List.take_succ_cons, frames_cons, frames_cons, List.length_append, List.take_append, List.take_of_length_le (by omega)]
    rw [show (frame s).length + (frames (l.take j)).length - (frame s).length = (frames (l.take j)).length by omega, frames_take l j]

theorem j0_alive (l : List ByteArray) (a : Int) : Ev (fun k => cornucopialaw3_SumBack.j0 k l a true) true :=
  Ev.step (fun k => (cornucopialaw3_SumBack.j0.eq_2 _ _ _ _).trans (if_pos rfl)) (Ev.bind alive_ev (Ev.now _))
theorem j1_true (l : List ByteArray) (a : Int) (hl : l.length ≤ 60) (hz : ∀ s ∈ l, s.size ≤ 6000) (ha : 0 ≤ a) : Ev (fun k => cornucopialaw3_SumBack.j1 k l a (ba (frames l)) false) true := by
  have hf := frames_le l hz
  have hz2 : ∀ s ∈ l, s.size ≤ 16777216 := fun s hs => by have := hz s hs; omega
  by_cases c : a > ((ba (frames l)).size : Int)
  · exact Ev.step (fun k => (cornucopialaw3_SumBack.j1.eq_2 _ _ _ _ _).trans ((if_neg (by simp)).trans (if_pos c))) (Ev.bind alive_ev (Ev.now _))
  rw [size_ba] at c
  obtain ⟨n, rfl⟩ := Int.eq_ofNat_of_zero_le ha
  obtain ⟨j, hj, hev, hle, hall⟩ := Scan_ev l n hz2 (by omega) (by omega) (by omega)
  have ht : (l.take j).length = j := by rw [List.length_take]; omega
  have hft : (frames (l.take j)).length ≤ (frames l).length := by omega
  refine Ev.step (fun k => (cornucopialaw3_SumBack.j1.eq_2 _ _ _ _ _).trans ((if_neg (by simp)).trans ((if_neg (by rw [size_ba]; exact c)).trans ((if_pos ha).trans (if_pos (by rw [size_ba]; omega)))))) ?_
  have x1 : (ba (frames l)).extract 0 (n : Int).toNat = ba ((frames l).take n) := ls_inj (by rw [ls_extract, ls_ba, ls_ba, List.drop_zero, Int.toNat_natCast])
  rw [x1]
  refine Ev.bind hev ?_
  refine Ev.bind alive_ev ?_
  refine Ev.iteT rfl (Ev.iteT (by simp only []; omega) (Ev.iteT (by simp only []; omega) (Ev.iteT (by simp only []; omega) ?_)))
  have x2 : l.take ((((l.take j).length : Nat) : Int) : Int).toNat = l.take j := by rw [Int.toNat_natCast, ht]
  simp only [] at *
  rw [x2]
  refine Ev.bind (Same_ev (l.take j) (by omega)) ?_
  refine Ev.iteT rfl (Ev.bind (Frame_ev (l.take j) (fun s hs => hz2 s (List.mem_of_mem_take hs)) (by omega)) ?_)
  refine Ev.iteT (by omega) (Ev.iteT (by rw [size_ba]; omega) ?_)
  have x3 : (ba (frames l)).extract 0 (((frames (l.take j)).length : Nat) : Int).toNat = ba (frames (l.take j)) := ls_inj (by rw [ls_extract, ls_ba, ls_ba, List.drop_zero, Int.toNat_natCast, frames_take])
  rw [x3]
  simp only [beq_self_eq_true]
  exact Ev.now _
theorem SumBack_pure (l : List ByteArray) (a : Int) (hl : l.length ≤ 9223372036854775806) (hz : ∀ s ∈ l, s.size ≤ 140737488355328) : ∃ k, cornucopialaw3_SumBack.f k l a = some true := by
  refine Ev.rounds (g := fun k => cornucopialaw3_SumBack.f k l a) ?_
  obtain ⟨b, hb, hbt⟩ := Short_ev 60 6000 l hl hz (by omega) (by omega)
  unfold cornucopialaw3_SumBack.f
  refine Ev.bind hb ?_
  cases b with
  | false => exact Ev.iteF (by simp) (j0_alive l a)
  | true =>
    refine Ev.iteT rfl ?_
    obtain ⟨h60, h6⟩ := hbt rfl
    have hz6 : ∀ s ∈ l, s.size ≤ 6000 := fun s hs => by have := h6 s hs; omega
    by_cases c : a < 0
    · rw [decide_eq_true c]; exact j0_alive l a
    rw [decide_eq_false c]
    have hz2 : ∀ s ∈ l, s.size ≤ 16777216 := fun s hs => by have := hz6 s hs; omega
    have hf := frames_le l hz6
    refine Ev.step (fun k => (cornucopialaw3_SumBack.j0.eq_2 _ _ _ _).trans (if_neg (by simp))) (Ev.bind (Frame_ev l hz2 (by omega)) ?_)
    obtain ⟨j, hj, hev, hle, hall⟩ := Scan_ev l (frames l).length hz2 (by omega) (Nat.le_refl _) (by omega)
    have hjl := hall rfl
    subst hjl
    rw [List.take_length, List.take_length] at hev
    refine Ev.bind hev ?_
    refine Ev.bind (Same_ev l hl) ?_
    refine Ev.iteT rfl ?_
    rw [size_ba]
    simp only [bne_self_eq_false]
    exact j1_true l a (by omega) hz6 (by omega)
end Go.Proofs.Ytghfkihmiamblaa.Pure
