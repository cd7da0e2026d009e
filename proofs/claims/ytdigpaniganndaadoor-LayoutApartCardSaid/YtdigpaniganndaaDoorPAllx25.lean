-- Printed by a program of this session (wip/drive.py, over the kit's print.py with its own changes). Lean checks it.
import Derived.Test.YtdigpaniganndaaDoorPAllx0
import Derived.Test.YtdigpaniganndaaDoorPAllx10
import Derived.Test.YtdigpaniganndaaDoorPAllx11
import Derived.Test.YtdigpaniganndaaDoorPAllx12
import Derived.Test.YtdigpaniganndaaDoorPAllx17
namespace Go.Proofs.YtdigpaniganndaaDoor.PAll
open Go.RowKit Go.Proofs.YtdigpaniganndaaDoorW.PrintWords Go.Proofs.YtdigpaniganndaaDoorW.PrintLast Go.Proofs.YtdigpaniganndaaDoorW.PrintMore
attribute [local go_sem] max2_int min2_int max_two min_two max_three min_three max_four min_four   -- for this text's walks alone
set_option linter.unusedVariables false
set_option linter.unusedSimpArgs false

/-! ### cornucopialaw21_LayoutApart: function 5 -/
mutual
def cornucopialaw21_LayoutApart.j0 : Nat → ByteArray → ByteArray → ByteArray → ByteArray → Bool → Int → Int → Int → Int → Int → Int → Int → Int → Int → Int → Option (Bool)
  | 0, _, _, _, _, _, _, _, _, _, _, _, _, _, _, _ => none
  | k + 1, x0, x1, x2, x3, x42, x372000, x372001, x372002, x372003, x372004, x373000, x373001, x373002, x373003, x373004 => if x42 = true then ((cornucopialaw21_alive.f k).bind fun t373 => (some t373)) else ((layout_ElemPrefix.f x0 x2).bind fun t374 => ((layout_ElemKey.f k x0 x2 x372000 x372001 x372002 x372003 x372004).bind fun t375 => ((layout_ElemKey.f k x0 x3 x373000 x373001 x373002 x373003 x373004).bind fun t376 => (if (t375.size : Int) < (t374.size : Int) then (cornucopialaw21_LayoutApart.j1 k x0 x1 true) else (if 0 ≤ (t374.size : Int) then (if (t374.size : Int) ≤ (t375.size : Int) then (if (t375.extract 0 ((t374.size : Int) : Int).toNat).toList = t374.toList then (if (t376.size : Int) ≥ (t374.size : Int) then (if (t374.size : Int) ≤ (t376.size : Int) then (cornucopialaw21_LayoutApart.j1 k x0 x1 ((t376.extract 0 ((t374.size : Int) : Int).toNat).toList == t374.toList)) else (none)) else (cornucopialaw21_LayoutApart.j1 k x0 x1 false)) else (cornucopialaw21_LayoutApart.j1 k x0 x1 true)) else (none)) else (none))))))
def cornucopialaw21_LayoutApart.j1 : Nat → ByteArray → ByteArray → Bool → Option (Bool)
  | 0, _, _, _ => none
  | k + 1, x0, x1, x82 => if x82 = true then (none) else (if x0.toList = x1.toList then ((cornucopialaw21_alive.f k).bind fun t377 => (some t377)) else ((layout_Ends.f k x0).bind fun bt378 => ((layout_Ends.f k x1).bind fun bt380 => ((cornucopialaw21_alive.f k).bind fun t382 => (if t382 = true then (if (Op.bytesLess bt378.1.toList bt378.2.toList) = true then (if ((Op.bytesLess bt380.1.toList bt378.2.toList) = true) then (if ((Op.bytesLess bt378.1.toList bt380.2.toList) = true) then (none) else ((layout_Key.f x0 1).bind fun t383 => ((layout_Key.f x1 1).bind fun t384 => (some (t383.toList != t384.toList))))) else ((layout_Key.f x0 1).bind fun t385 => ((layout_Key.f x1 1).bind fun t386 => (some (t385.toList != t386.toList))))) else (none)) else (none))))))
end
def cornucopialaw21_LayoutApart.f (k : Nat) (a0 : ByteArray) (a1 : ByteArray) (a2 : ByteArray) (a3 : ByteArray) (a4_0 : Int) (a4_1 : Int) (a4_2 : Int) (a4_3 : Int) (a4_4 : Int) (a5_0 : Int) (a5_1 : Int) (a5_2 : Int) (a5_3 : Int) (a5_4 : Int) : Option (Bool) := if (a0.size : Int) > 300 then (cornucopialaw21_LayoutApart.j0 k a0 a1 a2 a3 true a4_0 a4_1 a4_2 a4_3 a4_4 a5_0 a5_1 a5_2 a5_3 a5_4) else (if (a1.size : Int) > 300 then (cornucopialaw21_LayoutApart.j0 k a0 a1 a2 a3 true a4_0 a4_1 a4_2 a4_3 a4_4 a5_0 a5_1 a5_2 a5_3 a5_4) else (if (a2.size : Int) > 300 then (cornucopialaw21_LayoutApart.j0 k a0 a1 a2 a3 true a4_0 a4_1 a4_2 a4_3 a4_4 a5_0 a5_1 a5_2 a5_3 a5_4) else (if (a3.size : Int) > 300 then (cornucopialaw21_LayoutApart.j0 k a0 a1 a2 a3 true a4_0 a4_1 a4_2 a4_3 a4_4 a5_0 a5_1 a5_2 a5_3 a5_4) else (cornucopialaw21_LayoutApart.j0 k a0 a1 a2 a3 (a2.toList == a3.toList) a4_0 a4_1 a4_2 a4_3 a4_4 a5_0 a5_1 a5_2 a5_3 a5_4))))
theorem cornucopialaw21_LayoutApart.mono_l : ∀ k, (∀ y0 y1 y2 y3 y4 y5 y6 y7 y8 y9 y10 y11 y12 y13 y14, LeO (cornucopialaw21_LayoutApart.j0 k y0 y1 y2 y3 y4 y5 y6 y7 y8 y9 y10 y11 y12 y13 y14) (cornucopialaw21_LayoutApart.j0 (k + 1) y0 y1 y2 y3 y4 y5 y6 y7 y8 y9 y10 y11 y12 y13 y14)) ∧ (∀ y0 y1 y2, LeO (cornucopialaw21_LayoutApart.j1 k y0 y1 y2) (cornucopialaw21_LayoutApart.j1 (k + 1) y0 y1 y2))
  | 0 => ⟨fun _ _ _ _ _ _ _ _ _ _ _ _ _ _ _ r h => by simp [cornucopialaw21_LayoutApart.j0] at h, fun _ _ _ r h => by simp [cornucopialaw21_LayoutApart.j1] at h⟩
  | k + 1 => by
    obtain ⟨ih0, ih1⟩ := cornucopialaw21_LayoutApart.mono_l k
    refine ⟨?_, ?_⟩
    · intro y0 y1 y2 y3 y4 y5 y6 y7 y8 y9 y10 y11 y12 y13 y14
      unfold cornucopialaw21_LayoutApart.j0
      repeat' first
      | (with_reducible exact ih0 _ _ _ _ _ _ _ _ _ _ _ _ _ _ _)
      | (with_reducible exact ih1 _ _ _)
      | (with_reducible exact cornucopialaw21_alive.mono _)
      | (with_reducible exact layout_ElemKey.mono _ _ _ _ _ _ _ _)
      | (with_reducible exact layout_Ends.mono _ _)
      | (with_reducible exact LeO.refl _)
      | (with_reducible exact LeO.none _)
      | (with_reducible refine LeO.ite ?_ ?_)
      | (with_reducible refine LeO.bind ?_ (fun _ => ?_))
      | exact ih0 _ _ _ _ _ _ _ _ _ _ _ _ _ _ _
      | exact ih1 _ _ _
      | exact cornucopialaw21_alive.mono _
      | exact layout_ElemKey.mono _ _ _ _ _ _ _ _
      | exact layout_Ends.mono _ _
      | exact LeO.none _
      | refine LeO.ite ?_ ?_
      | refine LeO.bind ?_ (fun _ => ?_)
    · intro y0 y1 y2
      unfold cornucopialaw21_LayoutApart.j1
      repeat' first
      | (with_reducible exact ih0 _ _ _ _ _ _ _ _ _ _ _ _ _ _ _)
      | (with_reducible exact ih1 _ _ _)
      | (with_reducible exact cornucopialaw21_alive.mono _)
      | (with_reducible exact layout_ElemKey.mono _ _ _ _ _ _ _ _)
      | (with_reducible exact layout_Ends.mono _ _)
      | (with_reducible exact LeO.refl _)
      | (with_reducible exact LeO.none _)
      | (with_reducible refine LeO.ite ?_ ?_)
      | (with_reducible refine LeO.bind ?_ (fun _ => ?_))
      | exact ih0 _ _ _ _ _ _ _ _ _ _ _ _ _ _ _
      | exact ih1 _ _ _
      | exact cornucopialaw21_alive.mono _
      | exact layout_ElemKey.mono _ _ _ _ _ _ _ _
      | exact layout_Ends.mono _ _
      | exact LeO.none _
      | refine LeO.ite ?_ ?_
      | refine LeO.bind ?_ (fun _ => ?_)
theorem cornucopialaw21_LayoutApart.mono : ∀ a0 a1 a2 a3 a4 a5 a6 a7 a8 a9 a10 a11 a12 a13 k, LeO (cornucopialaw21_LayoutApart.f k a0 a1 a2 a3 a4 a5 a6 a7 a8 a9 a10 a11 a12 a13) (cornucopialaw21_LayoutApart.f (k + 1) a0 a1 a2 a3 a4 a5 a6 a7 a8 a9 a10 a11 a12 a13) := by
  intro a0 a1 a2 a3 a4 a5 a6 a7 a8 a9 a10 a11 a12 a13 k
  obtain ⟨ih0, ih1⟩ := cornucopialaw21_LayoutApart.mono_l k
  unfold cornucopialaw21_LayoutApart.f
  repeat' first
      | (with_reducible exact ih0 _ _ _ _ _ _ _ _ _ _ _ _ _ _ _)
      | (with_reducible exact ih1 _ _ _)
      | (with_reducible exact cornucopialaw21_alive.mono _)
      | (with_reducible exact layout_ElemKey.mono _ _ _ _ _ _ _ _)
      | (with_reducible exact layout_Ends.mono _ _)
      | (with_reducible exact LeO.refl _)
      | (with_reducible exact LeO.none _)
      | (with_reducible refine LeO.ite ?_ ?_)
      | (with_reducible refine LeO.bind ?_ (fun _ => ?_))
      | exact ih0 _ _ _ _ _ _ _ _ _ _ _ _ _ _ _
      | exact ih1 _ _ _
      | exact cornucopialaw21_alive.mono _
      | exact layout_ElemKey.mono _ _ _ _ _ _ _ _
      | exact layout_Ends.mono _ _
      | exact LeO.none _
      | refine LeO.ite ?_ ?_
      | refine LeO.bind ?_ (fun _ => ?_)
def cornucopialaw21_LayoutApart.T4 : Bool × List (List Nat × List Nat) := (true, [([], []), ([], []), ([], []), ([0, 1, 2], [0, 1, 2]), ([], []), ([], []), ([], []), ([4, 5, 6, 3], [4, 5, 6]), ([3, 7, 0, 1, 2, 3], [3]), ([7, 8, 0, 1, 2, 3, 4, 5, 6, 7, 8], [7])])
def cornucopialaw21_LayoutApart.B4 : List Nat := [0, 0, 0, 7, 0, 0, 0, 127, 255, 511]
theorem cornucopialaw21_LayoutApart.tab4 : rtab .any (opsOf Tryd.f5 4) = cornucopialaw21_LayoutApart.T4 := by kernel_rfl
theorem cornucopialaw21_LayoutApart.bits4 : waitsOk cornucopialaw21_LayoutApart.T4.2 cornucopialaw21_LayoutApart.B4 = true := by kernel_rfl
theorem bl_trich : ∀ a b : List UInt8, (Op.bytesLess a b || a == b) = !Op.bytesLess b a
  | [], [] => rfl
  | [], _ :: _ => rfl
  | _ :: _, [] => rfl
  | x :: a, y :: b => by
    have ih := bl_trich a b
    unfold Op.bytesLess
    by_cases h : x = y
    · subst h
      have := UInt8.lt_irrefl x
      simpa using ih
    · have h2 : ¬ y = x := fun e => h e.symm
      by_cases h3 : x < y
      · have h4 : ¬ y < x := UInt8.lt_asymm h3
        simp [h, h2, h3, h4]
      · have h4 : y < x := by
          have h5 : ¬ x.toNat < y.toNat := fun e => h3 (UInt8.lt_iff_toNat_lt.2 e)
          have h6 : ¬ x.toNat = y.toNat := fun e => h (UInt8.toNat_inj.1 e)
          exact UInt8.lt_iff_toNat_lt.2 (by omega)
        simp [h, h2, h3, h4]
theorem leq_n (t : TypeId) (a b : ByteArray) : binOp .leq t (.string a) (.string b) = pure (.bool !(Op.bytesLess b.toList a.toList)) := by rw [binOp_string_leq, bl_trich]
theorem gtr_n (t : TypeId) (a b : ByteArray) : binOp .gtr t (.string a) (.string b) = pure (.bool (Op.bytesLess b.toList a.toList)) := by rw [binOp_string_gtr, bl_trich, Bool.not_not]
attribute [-go_sem] binOp_string_leq binOp_string_gtr
attribute [local go_sem] leq_n gtr_n

set_option maxHeartbeats 8000000 in
set_option maxRecDepth 100000 in
theorem cornucopialaw21_LayoutApart.calls (k : Nat) (a0 : ByteArray) (a1 : ByteArray) (a2 : ByteArray) (a3 : ByteArray) (a4_0 : Int) (a4_1 : Int) (a4_2 : Int) (a4_3 : Int) (a4_4 : Int) (a5_0 : Int) (a5_1 : Int) (a5_2 : Int) (a5_3 : Int) (a5_4 : Int) (r : Bool) (w : World) (h : cornucopialaw21_LayoutApart.f k a0 a1 a2 a3 a4_0 a4_1 a4_2 a4_3 a4_4 a5_0 a5_1 a5_2 a5_3 a5_4 = some r) :
    Calls Tryd.prog 5 #[.string a0, .string a1, .string a2, .string a3, .agg #[.int .u8 a4_0, .int .u8 a4_1, .int .u8 a4_2, .int .u8 a4_3, .int .u64 a4_4], .agg #[.int .u8 a5_0, .int .u8 a5_1, .int .u8 a5_2, .int .u8 a5_3, .int .u64 a5_4]] w fun e w' => e = .returned (.bool r) ∧ Below w.heap.size w w' := by
  have hu26 := Tryd.underlying26
  have HB := Aside0.mk (Below.refl w.heap.size w)
  have H : (if (a0.size : Int) > 300 then (cornucopialaw21_LayoutApart.j0 k a0 a1 a2 a3 true a4_0 a4_1 a4_2 a4_3 a4_4 a5_0 a5_1 a5_2 a5_3 a5_4) else (if (a1.size : Int) > 300 then (cornucopialaw21_LayoutApart.j0 k a0 a1 a2 a3 true a4_0 a4_1 a4_2 a4_3 a4_4 a5_0 a5_1 a5_2 a5_3 a5_4) else (if (a2.size : Int) > 300 then (cornucopialaw21_LayoutApart.j0 k a0 a1 a2 a3 true a4_0 a4_1 a4_2 a4_3 a4_4 a5_0 a5_1 a5_2 a5_3 a5_4) else (if (a3.size : Int) > 300 then (cornucopialaw21_LayoutApart.j0 k a0 a1 a2 a3 true a4_0 a4_1 a4_2 a4_3 a4_4 a5_0 a5_1 a5_2 a5_3 a5_4) else (cornucopialaw21_LayoutApart.j0 k a0 a1 a2 a3 (a2.toList == a3.toList) a4_0 a4_1 a4_2 a4_3 a4_4 a5_0 a5_1 a5_2 a5_3 a5_4))))) = some r := h
  clear h
  have HC7 := Aside0.mk H
  clear H
  go_enter Tryd.func5, Tryd.ntmps5
  go_upto_region 1 with (first | ((with_reducible refine gate_dst (N := 10) rfl ?_); (try (refine gate_guard (by rfl) ?_; dsimp only)); refine box_event ?hg (N := 10) ?hd (cs := #[.int .u8 a4_0, .int .u8 a4_1, .int .u8 a4_2, .int .u8 a4_3, .int .u64 a4_4]) (t := 26) ?hr ?_; (case hd => rfl); (case hg => rfl); (case hr => first | (go_simp; done) | (go_simp; rfl)); intro gb371 hg w8 hbox hb; have n0_ := Aside0.mk (below_step (by repeat (first | (with_reducible first | exact HB.out | apply below_alloc | apply pw_below_drewN | apply below_drew1) | exact HB.out)) hb); have n1_ := Aside0.mk (hbox); have n2_ := Aside0.mk ((by rw [hg]; exact (below_size (by repeat (first | (with_reducible first | exact HB.out | apply below_alloc | apply pw_below_drewN | apply below_drew1) | exact HB.out))) : w.heap.size ≤ gb371)); have n3_ := Aside0.mk ((by rw [hg]; exact (below_size (by repeat (first | (with_reducible first | exact HB.out | apply below_alloc | apply pw_below_drewN | apply below_drew1) | exact HB.out))) : w.heap.size ≤ gb371)); clear HB; have HB := n0_; have BK371 := n1_; have GW371 := n2_; have GE371 := n3_; clear n0_ n1_ n2_ n3_; clear hb hbox hg) | ((with_reducible refine gate_dst (N := 11) rfl ?_); (try (refine gate_guard (by rfl) ?_; dsimp only)); refine box_event ?hg (N := 11) ?hd (cs := #[.int .u8 a5_0, .int .u8 a5_1, .int .u8 a5_2, .int .u8 a5_3, .int .u64 a5_4]) (t := 26) ?hr ?_; (case hd => rfl); (case hg => rfl); (case hr => first | (go_simp; done) | (go_simp; rfl)); intro gb372 hg w9 hbox hb; have n0_ := Aside0.mk (blk_below (g := gb371) (o := .cells #[.int .u8 a4_0, .int .u8 a4_1, .int .u8 a4_2, .int .u8 a4_3, .int .u64 a4_4] 26 (0, 0)) (by (with_reducible repeat (first | refine blk_drewN ?_ _ | refine blk_drew ?_ | refine blk_alloc ?_ _)); exact BK371.out) hb); have n1_ := Aside0.mk (below_step (by repeat (first | (with_reducible first | exact HB.out | apply below_alloc | apply pw_below_drewN | apply below_drew1 | refine below_set ?_ GE371.out) | exact HB.out)) hb); have n2_ := Aside0.mk (hbox); have n3_ := Aside0.mk ((by rw [hg]; exact (below_size (by repeat (first | (with_reducible first | exact HB.out | apply below_alloc | apply pw_below_drewN | apply below_drew1 | refine below_set ?_ GE371.out) | exact HB.out))) : w.heap.size ≤ gb372)); have n4_ := Aside0.mk ((by rw [hg]; exact (below_size (by repeat (first | (with_reducible first | exact HB.out | apply below_alloc | apply pw_below_drewN | apply below_drew1 | refine below_set ?_ GE371.out) | exact HB.out))) : w.heap.size ≤ gb372)); have n5_ := Aside0.mk ((by rw [hg]; exact Nat.ne_of_lt (blk_lt (g := gb371) (o := .cells #[.int .u8 a4_0, .int .u8 a4_1, .int .u8 a4_2, .int .u8 a4_3, .int .u64 a4_4] 26 (0, 0)) (by (with_reducible repeat (first | refine blk_drewN ?_ _ | refine blk_drew ?_ | refine blk_alloc ?_ _)); exact BK371.out)) : gb371 ≠ gb372)); have n6_ := Aside0.mk ((by rw [hg]; exact Nat.ne_of_gt (blk_lt (g := gb371) (o := .cells #[.int .u8 a4_0, .int .u8 a4_1, .int .u8 a4_2, .int .u8 a4_3, .int .u64 a4_4] 26 (0, 0)) (by (with_reducible repeat (first | refine blk_drewN ?_ _ | refine blk_drew ?_ | refine blk_alloc ?_ _)); exact BK371.out)) : gb372 ≠ gb371)); clear BK371; clear HB; have BK371 := n0_; have HB := n1_; have BK372 := n2_; have GW372 := n3_; have GE372 := n4_; have NB371_372 := n5_; have NB372_371 := n6_; clear n0_ n1_ n2_ n3_ n4_ n5_ n6_; clear hb hbox hg))
  (try simp only [Act.put, List.setIfInBounds_toArray, List.set_cons_zero, List.set_cons_succ])
  go_cut [42] (fun v42 wc => ∃ (kq : Nat) (x42_6 : Bool), v42 = .bool x42_6 ∧ Aside0 (cornucopialaw21_LayoutApart.j0 kq a0 a1 a2 a3 x42_6 a4_0 a4_1 a4_2 a4_3 a4_4 a5_0 a5_1 a5_2 a5_3 a5_4 = some r) ∧ Aside0 (kq ≤ k) ∧ Aside0 (wc.heap[gb371]? = some (.cells #[.int .u8 a4_0, .int .u8 a4_1, .int .u8 a4_2, .int .u8 a4_3, .int .u64 a4_4] 26 (0, 0))) ∧ Aside0 (wc.heap[gb372]? = some (.cells #[.int .u8 a5_0, .int .u8 a5_1, .int .u8 a5_2, .int .u8 a5_3, .int .u64 a5_4] 26 (0, 0))) ∧ Aside0 (Below w.heap.size w wc))
  case first =>
    have H := HC7.out
    clear HC7
    by_cases c10 : (a0.size : Int) > 300
    · rw [if_pos c10] at H
      have c10b0 : decide (300 < (a0.size : Int)) = true := decide_eq_true c10
      have c10b1 : decide (300 < a0.size) = true := decide_eq_true (by omega)
      clear c10
      (first | rw [c10b0] | (simp only [i64_w, i32_w]; rw [c10b0]) | skip)
      have H' := Aside0.mk H
      clear H
      go_wp2
      go_meet
      case rel => exact ⟨_, (true), (by first | rfl | (simp; done) | (simp [*]; done)), H', ⟨by first | omega | exact Nat.le_refl _⟩, ⟨by (with_reducible repeat (first | refine blk_drewN ?_ _ | refine blk_drew ?_ | refine blk_alloc ?_ _)); exact BK371.out⟩, ⟨by (with_reducible repeat (first | refine blk_drewN ?_ _ | refine blk_drew ?_ | refine blk_alloc ?_ _)); exact BK372.out⟩, ⟨by repeat (first | (with_reducible first | exact HB.out | apply below_alloc | apply pw_below_drewN | apply below_drew1 | refine below_set ?_ GE371.out | refine below_set ?_ GE372.out) | exact HB.out)⟩⟩
    · rw [if_neg c10] at H
      have c10b0 : decide (300 < (a0.size : Int)) = false := decide_eq_false c10
      have c10b1 : decide (300 < a0.size) = false := decide_eq_false (by omega)
      clear c10
      (first | rw [c10b0] | (simp only [i64_w, i32_w]; rw [c10b0]) | skip)
      by_cases c11 : (a1.size : Int) > 300
      · rw [if_pos c11] at H
        have c11b0 : decide (300 < (a1.size : Int)) = true := decide_eq_true c11
        have c11b1 : decide (300 < a1.size) = true := decide_eq_true (by omega)
        clear c11
        have H' := Aside0.mk H
        clear H
        go_wp2
        go_meet
        case rel => exact ⟨_, (true), (by first | rfl | (simp; done) | (simp [*]; done)), H', ⟨by first | omega | exact Nat.le_refl _⟩, ⟨by (with_reducible repeat (first | refine blk_drewN ?_ _ | refine blk_drew ?_ | refine blk_alloc ?_ _)); exact BK371.out⟩, ⟨by (with_reducible repeat (first | refine blk_drewN ?_ _ | refine blk_drew ?_ | refine blk_alloc ?_ _)); exact BK372.out⟩, ⟨by repeat (first | (with_reducible first | exact HB.out | apply below_alloc | apply pw_below_drewN | apply below_drew1 | refine below_set ?_ GE371.out | refine below_set ?_ GE372.out) | exact HB.out)⟩⟩
      · rw [if_neg c11] at H
        have c11b0 : decide (300 < (a1.size : Int)) = false := decide_eq_false c11
        have c11b1 : decide (300 < a1.size) = false := decide_eq_false (by omega)
        clear c11
        by_cases c12 : (a2.size : Int) > 300
        · rw [if_pos c12] at H
          have c12b0 : decide (300 < (a2.size : Int)) = true := decide_eq_true c12
          have c12b1 : decide (300 < a2.size) = true := decide_eq_true (by omega)
          clear c12
          have H' := Aside0.mk H
          clear H
          go_wp2
          go_meet
          case rel => exact ⟨_, (true), (by first | rfl | (simp; done) | (simp [*]; done)), H', ⟨by first | omega | exact Nat.le_refl _⟩, ⟨by (with_reducible repeat (first | refine blk_drewN ?_ _ | refine blk_drew ?_ | refine blk_alloc ?_ _)); exact BK371.out⟩, ⟨by (with_reducible repeat (first | refine blk_drewN ?_ _ | refine blk_drew ?_ | refine blk_alloc ?_ _)); exact BK372.out⟩, ⟨by repeat (first | (with_reducible first | exact HB.out | apply below_alloc | apply pw_below_drewN | apply below_drew1 | refine below_set ?_ GE371.out | refine below_set ?_ GE372.out) | exact HB.out)⟩⟩
        · rw [if_neg c12] at H
          have c12b0 : decide (300 < (a2.size : Int)) = false := decide_eq_false c12
          have c12b1 : decide (300 < a2.size) = false := decide_eq_false (by omega)
          clear c12
          by_cases c13 : (a3.size : Int) > 300
          · rw [if_pos c13] at H
            have c13b0 : decide (300 < (a3.size : Int)) = true := decide_eq_true c13
            have c13b1 : decide (300 < a3.size) = true := decide_eq_true (by omega)
            clear c13
            have H' := Aside0.mk H
            clear H
            go_wp2
            go_meet
            case rel => exact ⟨_, (true), (by first | rfl | (simp; done) | (simp [*]; done)), H', ⟨by first | omega | exact Nat.le_refl _⟩, ⟨by (with_reducible repeat (first | refine blk_drewN ?_ _ | refine blk_drew ?_ | refine blk_alloc ?_ _)); exact BK371.out⟩, ⟨by (with_reducible repeat (first | refine blk_drewN ?_ _ | refine blk_drew ?_ | refine blk_alloc ?_ _)); exact BK372.out⟩, ⟨by repeat (first | (with_reducible first | exact HB.out | apply below_alloc | apply pw_below_drewN | apply below_drew1 | refine below_set ?_ GE371.out | refine below_set ?_ GE372.out) | exact HB.out)⟩⟩
          · rw [if_neg c13] at H
            have c13b0 : decide (300 < (a3.size : Int)) = false := decide_eq_false c13
            have c13b1 : decide (300 < a3.size) = false := decide_eq_false (by omega)
            clear c13
            have H' := Aside0.mk H
            clear H
            go_wp2
            go_meet
            case rel => exact ⟨_, ((a2.toList == a3.toList)), (by first | rfl | (simp; done) | (simp [*]; done)), H', ⟨by first | omega | exact Nat.le_refl _⟩, ⟨by (with_reducible repeat (first | refine blk_drewN ?_ _ | refine blk_drew ?_ | refine blk_alloc ?_ _)); exact BK371.out⟩, ⟨by (with_reducible repeat (first | refine blk_drewN ?_ _ | refine blk_drew ?_ | refine blk_alloc ?_ _)); exact BK372.out⟩, ⟨by repeat (first | (with_reducible first | exact HB.out | apply below_alloc | apply pw_below_drewN | apply below_drew1 | refine below_set ?_ GE371.out | refine below_set ?_ GE372.out) | exact HB.out)⟩⟩
  case rest =>
    clear HC7
    try clear c1
    try clear p2
    try clear c5
    try clear c10
    try clear c10b0
    try clear c10b1
    try clear c11
    try clear c11b0
    try clear c11b1
    try clear c12
    try clear c12b0
    try clear c12b1
    try clear c13
    try clear c13b0
    try clear c13b1
    obtain ⟨kq, x42_6, rfl, HA, HJ6, BK371, BK372, HB⟩ := hcut
    cases kq with
    | zero => exact absurd HA.out (by simp [cornucopialaw21_LayoutApart.j0])
    | succ kj6 =>
      have H := HA.out
      clear HA
      simp only [cornucopialaw21_LayoutApart.j0] at H
      by_cases c14 : x42_6 = true
      · subst c14
        have H1 : ((cornucopialaw21_alive.f kj6).bind fun t373 => (some t373)) = some r := by rw [if_pos rfl] at H; exact H
        clear H
        have H := H1
        clear H1
        replace H := Option.bind_eq_some_iff.mp H
        obtain ⟨t373, A150, H⟩ := H
        replace H : (some t373) = some r := H
        have A15 := Aside0.mk A150
        clear A150
        obtain rfl := Option.some.inj H
        go_wp2_with (first | ((with_reducible refine gate_callee (f := 6) rfl ?_); refine goesL_ (some 43) rfl rfl Tryd.func6 (by kernel_rfl) rfl #[] rfl (by (try simp only [List.map_toArray, List.map_cons, List.map_nil]); first | done | rfl | (simp only [List.length_drop, List.length_take]; rfl)) ?_; (with_reducible refine (cornucopialaw21_alive.calls kj6  t373 _ A15.out).mono ?_); rintro e w16 ⟨rfl, hb⟩; refine ⟨_, rfl, ?_⟩; have n0_ := Aside0.mk (blk_below (g := gb371) (o := .cells #[.int .u8 a4_0, .int .u8 a4_1, .int .u8 a4_2, .int .u8 a4_3, .int .u64 a4_4] 26 (0, 0)) (by (with_reducible repeat (first | refine blk_drewN ?_ _ | refine blk_drew ?_ | refine blk_alloc ?_ _)); exact BK371.out) hb); have n1_ := Aside0.mk (blk_below (g := gb372) (o := .cells #[.int .u8 a5_0, .int .u8 a5_1, .int .u8 a5_2, .int .u8 a5_3, .int .u64 a5_4] 26 (0, 0)) (by (with_reducible repeat (first | refine blk_drewN ?_ _ | refine blk_drew ?_ | refine blk_alloc ?_ _)); exact BK372.out) hb); have n2_ := Aside0.mk (below_step (by repeat (first | (with_reducible first | exact HB.out | apply below_alloc | apply pw_below_drewN | apply below_drew1 | refine below_set ?_ GE371.out | refine below_set ?_ GE372.out) | exact HB.out)) hb); clear BK371; clear BK372; clear HB; have BK371 := n0_; have BK372 := n1_; have HB := n2_; clear n0_ n1_ n2_; (try clear hb); (try clear hb2); (try clear hk); (try clear hi)))
        go_ret
        exact ⟨by first | rfl | (simp [errW_none, errW_some] <;> rfl) | (simp [*, errW_none, errW_some] <;> rfl), by repeat (first | (with_reducible first | exact HB.out | apply below_alloc | apply pw_below_drewN | apply below_drew1 | refine below_set ?_ GE371.out | refine below_set ?_ GE372.out) | exact HB.out)⟩
      · replace c14 := Bool.eq_false_iff.mpr c14
        subst c14
        have H1 : ((layout_ElemPrefix.f a0 a2).bind fun t374 => ((layout_ElemKey.f kj6 a0 a2 a4_0 a4_1 a4_2 a4_3 a4_4).bind fun t375 => ((layout_ElemKey.f kj6 a0 a3 a5_0 a5_1 a5_2 a5_3 a5_4).bind fun t376 => (if (t375.size : Int) < (t374.size : Int) then (cornucopialaw21_LayoutApart.j1 kj6 a0 a1 true) else (if 0 ≤ (t374.size : Int) then (if (t374.size : Int) ≤ (t375.size : Int) then (if (t375.extract 0 ((t374.size : Int) : Int).toNat).toList = t374.toList then (if (t376.size : Int) ≥ (t374.size : Int) then (if (t374.size : Int) ≤ (t376.size : Int) then (cornucopialaw21_LayoutApart.j1 kj6 a0 a1 ((t376.extract 0 ((t374.size : Int) : Int).toNat).toList == t374.toList)) else (none)) else (cornucopialaw21_LayoutApart.j1 kj6 a0 a1 false)) else (cornucopialaw21_LayoutApart.j1 kj6 a0 a1 true)) else (none)) else (none)))))) = some r := by rw [if_neg (show ¬ (false = true) by decide)] at H; exact H
        clear H
        have H := H1
        clear H1
        replace H := Option.bind_eq_some_iff.mp H
        obtain ⟨t374, A170, H⟩ := H
        replace H : ((layout_ElemKey.f kj6 a0 a2 a4_0 a4_1 a4_2 a4_3 a4_4).bind fun t375 => ((layout_ElemKey.f kj6 a0 a3 a5_0 a5_1 a5_2 a5_3 a5_4).bind fun t376 => (if (t375.size : Int) < (t374.size : Int) then (cornucopialaw21_LayoutApart.j1 kj6 a0 a1 true) else (if 0 ≤ (t374.size : Int) then (if (t374.size : Int) ≤ (t375.size : Int) then (if (t375.extract 0 ((t374.size : Int) : Int).toNat).toList = t374.toList then (if (t376.size : Int) ≥ (t374.size : Int) then (if (t374.size : Int) ≤ (t376.size : Int) then (cornucopialaw21_LayoutApart.j1 kj6 a0 a1 ((t376.extract 0 ((t374.size : Int) : Int).toNat).toList == t374.toList)) else (none)) else (cornucopialaw21_LayoutApart.j1 kj6 a0 a1 false)) else (cornucopialaw21_LayoutApart.j1 kj6 a0 a1 true)) else (none)) else (none))))) = some r := H
        have A17 := Aside0.mk A170
        clear A170
        replace H := Option.bind_eq_some_iff.mp H
        obtain ⟨t375, A180, H⟩ := H
        replace H : ((layout_ElemKey.f kj6 a0 a3 a5_0 a5_1 a5_2 a5_3 a5_4).bind fun t376 => (if (t375.size : Int) < (t374.size : Int) then (cornucopialaw21_LayoutApart.j1 kj6 a0 a1 true) else (if 0 ≤ (t374.size : Int) then (if (t374.size : Int) ≤ (t375.size : Int) then (if (t375.extract 0 ((t374.size : Int) : Int).toNat).toList = t374.toList then (if (t376.size : Int) ≥ (t374.size : Int) then (if (t374.size : Int) ≤ (t376.size : Int) then (cornucopialaw21_LayoutApart.j1 kj6 a0 a1 ((t376.extract 0 ((t374.size : Int) : Int).toNat).toList == t374.toList)) else (none)) else (cornucopialaw21_LayoutApart.j1 kj6 a0 a1 false)) else (cornucopialaw21_LayoutApart.j1 kj6 a0 a1 true)) else (none)) else (none)))) = some r := H
        have A18 := Aside0.mk A180
        clear A180
        replace H := Option.bind_eq_some_iff.mp H
        obtain ⟨t376, A190, H⟩ := H
        replace H : (if (t375.size : Int) < (t374.size : Int) then (cornucopialaw21_LayoutApart.j1 kj6 a0 a1 true) else (if 0 ≤ (t374.size : Int) then (if (t374.size : Int) ≤ (t375.size : Int) then (if (t375.extract 0 ((t374.size : Int) : Int).toNat).toList = t374.toList then (if (t376.size : Int) ≥ (t374.size : Int) then (if (t374.size : Int) ≤ (t376.size : Int) then (cornucopialaw21_LayoutApart.j1 kj6 a0 a1 ((t376.extract 0 ((t374.size : Int) : Int).toNat).toList == t374.toList)) else (none)) else (cornucopialaw21_LayoutApart.j1 kj6 a0 a1 false)) else (cornucopialaw21_LayoutApart.j1 kj6 a0 a1 true)) else (none)) else (none))) = some r := H
        have A19 := Aside0.mk A190
        clear A190
        have HC20 := Aside0.mk H
        clear H
        try go_wp2_with (first | ((with_reducible refine gate_callee (f := 15) rfl ?_); refine goesL_ (some 46) rfl rfl Tryd.func15 (by kernel_rfl) rfl #[.string a0, .string a2] rfl (by (try simp only [List.map_toArray, List.map_cons, List.map_nil]); first | done | rfl | (simp only [List.length_drop, List.length_take]; rfl)) ?_; (with_reducible refine (layout_ElemPrefix.calls a0 a2 t374 _ A17.out).mono ?_); rintro e w21 ⟨rfl, hb⟩; refine ⟨_, rfl, ?_⟩; have n0_ := Aside0.mk (blk_below (g := gb371) (o := .cells #[.int .u8 a4_0, .int .u8 a4_1, .int .u8 a4_2, .int .u8 a4_3, .int .u64 a4_4] 26 (0, 0)) (by (with_reducible repeat (first | refine blk_drewN ?_ _ | refine blk_drew ?_ | refine blk_alloc ?_ _)); exact BK371.out) hb); have n1_ := Aside0.mk (blk_below (g := gb372) (o := .cells #[.int .u8 a5_0, .int .u8 a5_1, .int .u8 a5_2, .int .u8 a5_3, .int .u64 a5_4] 26 (0, 0)) (by (with_reducible repeat (first | refine blk_drewN ?_ _ | refine blk_drew ?_ | refine blk_alloc ?_ _)); exact BK372.out) hb); have n2_ := Aside0.mk (below_step (by repeat (first | (with_reducible first | exact HB.out | apply below_alloc | apply pw_below_drewN | apply below_drew1 | refine below_set ?_ GE371.out | refine below_set ?_ GE372.out) | exact HB.out)) hb); clear BK371; clear BK372; clear HB; have BK371 := n0_; have BK372 := n1_; have HB := n2_; clear n0_ n1_ n2_; (try clear hb); (try clear hb2); (try clear hk); (try clear hi)))
        have n0_ := Aside0.mk (blk_drew BK371.out)
        have n1_ := Aside0.mk (blk_drew BK372.out)
        have n2_ := Aside0.mk (below_drew1 HB.out)
        clear BK371
        clear BK372
        clear HB
        have BK371 := n0_
        have BK372 := n1_
        have HB := n2_
        clear n0_ n1_ n2_
        refine start_ (n := 10) (S := fun w' => w'.cell? ⟨gb371, 0, none⟩ = some (.int .u8 a4_0) ∧ w'.cell? ⟨gb371, 1, none⟩ = some (.int .u8 a4_1) ∧ w'.cell? ⟨gb371, 2, none⟩ = some (.int .u8 a4_2) ∧ w'.cell? ⟨gb371, 3, none⟩ = some (.int .u8 a4_3) ∧ w'.cell? ⟨gb371, 4, none⟩ = some (.int .u64 a4_4) ∧ w'.cell? ⟨gb372, 0, none⟩ = some (.int .u8 a5_0) ∧ w'.cell? ⟨gb372, 1, none⟩ = some (.int .u8 a5_1) ∧ w'.cell? ⟨gb372, 2, none⟩ = some (.int .u8 a5_2) ∧ w'.cell? ⟨gb372, 3, none⟩ = some (.int .u8 a5_3) ∧ w'.cell? ⟨gb372, 4, none⟩ = some (.int .u64 a5_4)) (ds := []) #[false, false, false, false, false, false, false, false, false, false] (by kernel_rfl) rfl rfl ⟨(blk_cell BK371.out 0).trans rfl, (blk_cell BK371.out 1).trans rfl, (blk_cell BK371.out 2).trans rfl, (blk_cell BK371.out 3).trans rfl, (blk_cell BK371.out 4).trans rfl, (blk_cell BK372.out 0).trans rfl, (blk_cell BK372.out 1).trans rfl, (blk_cell BK372.out 2).trans rfl, (blk_cell BK372.out 3).trans rfl, (blk_cell BK372.out 4).trans rfl⟩ (fun hHeld => ?_); refine with_tabW cornucopialaw21_LayoutApart.tab4 cornucopialaw21_LayoutApart.bits4 (fun HT_ HW_ => ?_)
        generalize w21.drew = w22 at BK371 BK372 HB hHeld ⊢
        refine pure_ (i := 0) (N := some 47) (v := ?_) (a' := ?_) #[true, false, false, false, false, false, false, false, false, false] rfl rfl (any_of HT_.out (by kernel_rfl)) (fun _ _ _ h => h) (Or.inl ⟨by rfl, ?_⟩) ?_ ?_
        rotate_left
        · intro w'
          go_simp
          with_reducible rfl
        rotate_left
        · simp only [Act.put, List.setIfInBounds_toArray, List.set_cons_zero, List.set_cons_succ, i64_w, i32_w]
          rfl
        refine pure_ (i := 1) (N := some 48) (v := ?_) (a' := ?_) #[true, true, false, false, false, false, false, false, false, false] rfl rfl (any_of HT_.out (by kernel_rfl)) (fun _ _ _ h => h) (Or.inl ⟨by rfl, ?_⟩) ?_ ?_
        rotate_left
        · intro w'
          go_simp
          with_reducible rfl
        rotate_left
        · simp only [Act.put, List.setIfInBounds_toArray, List.set_cons_zero, List.set_cons_succ, i64_w, i32_w]
          rfl
        refine pure_ (i := 4) (N := some 51) (v := ?_) (a' := ?_) #[true, true, false, false, true, false, false, false, false, false] rfl rfl (any_of HT_.out (by kernel_rfl)) (fun _ _ _ h => h) (Or.inl ⟨by rfl, ?_⟩) ?_ ?_
        rotate_left
        · intro w'
          go_simp
          with_reducible rfl
        rotate_left
        · simp only [Act.put, List.setIfInBounds_toArray, List.set_cons_zero, List.set_cons_succ, i64_w, i32_w]
          rfl
        refine pure_ (i := 5) (N := some 52) (v := ?_) (a' := ?_) #[true, true, false, false, true, true, false, false, false, false] rfl rfl (any_of HT_.out (by kernel_rfl)) (fun _ _ _ h => h) (Or.inl ⟨by rfl, ?_⟩) ?_ ?_
        rotate_left
        · intro w'
          go_simp
          with_reducible rfl
        rotate_left
        · simp only [Act.put, List.setIfInBounds_toArray, List.set_cons_zero, List.set_cons_succ, i64_w, i32_w]
          rfl
        refine take_ (i := 2) (N := some 49) (v := ?_) (a' := ?_) #[true, true, true, false, true, true, false, false, false, false] rfl rfl (take_ofW HT_.out HW_.out (by kernel_rfl)) (fun _ _ _ h => h) (Or.inl ⟨by rfl, ?_⟩) hHeld ?_ ?_
        rotate_left
        · rintro w' ⟨s0, s1, s2, s3, s4, s5, s6, s7, s8, s9⟩
          go_simp
          with_reducible rfl
        rotate_left
        · simp only [Act.put, List.setIfInBounds_toArray, List.set_cons_zero, List.set_cons_succ, i64_w, i32_w]
          rfl
        refine take_ (i := 6) (N := some 53) (v := ?_) (a' := ?_) #[true, true, true, false, true, true, true, false, false, false] rfl rfl (take_ofW HT_.out HW_.out (by kernel_rfl)) (fun _ _ _ h => h) (Or.inl ⟨by rfl, ?_⟩) hHeld ?_ ?_
        rotate_left
        · rintro w' ⟨s0, s1, s2, s3, s4, s5, s6, s7, s8, s9⟩
          go_simp
          with_reducible rfl
        rotate_left
        · simp only [Act.put, List.setIfInBounds_toArray, List.set_cons_zero, List.set_cons_succ, i64_w, i32_w]
          rfl
        refine one_ (i := 3) (N := some 50) #[true, true, true, true, true, true, true, false, false, false] rfl rfl (one_of HT_.out (by kernel_rfl)) (by decide) (fun K hK => ?_)
        refine goes_ Tryd.func13 (by kernel_rfl) rfl #[.string a0, .string a2, .agg #[.int .u8 a4_0, .int .u8 a4_1, .int .u8 a4_2, .int .u8 a4_3, .int .u64 a4_4]] (by rfl) rfl rfl (by (try simp only [List.map_toArray, List.map_cons, List.map_nil]); first | done | rfl | (simp only [List.length_drop, List.length_take]; rfl)) ?_
        with_reducible refine (layout_ElemKey.calls kj6 a0 a2 a4_0 a4_1 a4_2 a4_3 a4_4 t375 _ A18.out).mono ?_
        rintro e w23 ⟨rfl, hb⟩
        refine ⟨_, rfl, ?_⟩
        have n0_ := Aside0.mk (blk_below (g := gb371) (o := .cells #[.int .u8 a4_0, .int .u8 a4_1, .int .u8 a4_2, .int .u8 a4_3, .int .u64 a4_4] 26 (0, 0)) (by (with_reducible repeat (first | refine blk_drewN ?_ _ | refine blk_drew ?_ | refine blk_alloc ?_ _)); exact BK371.out) hb)
        have n1_ := Aside0.mk (blk_below (g := gb372) (o := .cells #[.int .u8 a5_0, .int .u8 a5_1, .int .u8 a5_2, .int .u8 a5_3, .int .u64 a5_4] 26 (0, 0)) (by (with_reducible repeat (first | refine blk_drewN ?_ _ | refine blk_drew ?_ | refine blk_alloc ?_ _)); exact BK372.out) hb)
        have n2_ := Aside0.mk (below_step (by repeat (first | (with_reducible first | exact HB.out | apply below_alloc | apply pw_below_drewN | apply below_drew1 | refine below_set ?_ GE371.out | refine below_set ?_ GE372.out) | exact HB.out)) hb)
        clear BK371
        clear BK372
        clear HB
        have BK371 := n0_
        have BK372 := n1_
        have HB := n2_
        clear n0_ n1_ n2_
        (try clear hb)
        (try clear hb2)
        (try clear hk)
        (try clear hi)
        refine hK.out _ _ ⟨(blk_cell BK371.out 0).trans rfl, (blk_cell BK371.out 1).trans rfl, (blk_cell BK371.out 2).trans rfl, (blk_cell BK371.out 3).trans rfl, (blk_cell BK371.out 4).trans rfl, (blk_cell BK372.out 0).trans rfl, (blk_cell BK372.out 1).trans rfl, (blk_cell BK372.out 2).trans rfl, (blk_cell BK372.out 3).trans rfl, (blk_cell BK372.out 4).trans rfl⟩ (fun hHeld => ?_)
        clear hK K
        refine norm_ (a' := ?_) ?_ ?_
        rotate_left
        · show Act.put _ (some 50) _ = _
          simp only [Act.put, List.setIfInBounds_toArray, List.set_cons_zero, List.set_cons_succ, i64_w, i32_w]
          rfl
        refine one_ (i := 7) (N := some 54) #[true, true, true, true, true, true, true, true, false, false] rfl rfl (one_of HT_.out (by kernel_rfl)) (by decide) (fun K hK => ?_)
        refine goes_ Tryd.func13 (by kernel_rfl) rfl #[.string a0, .string a3, .agg #[.int .u8 a5_0, .int .u8 a5_1, .int .u8 a5_2, .int .u8 a5_3, .int .u64 a5_4]] (by rfl) rfl rfl (by (try simp only [List.map_toArray, List.map_cons, List.map_nil]); first | done | rfl | (simp only [List.length_drop, List.length_take]; rfl)) ?_
        with_reducible refine (layout_ElemKey.calls kj6 a0 a3 a5_0 a5_1 a5_2 a5_3 a5_4 t376 _ A19.out).mono ?_
        rintro e w24 ⟨rfl, hb⟩
        refine ⟨_, rfl, ?_⟩
        have n0_ := Aside0.mk (blk_below (g := gb371) (o := .cells #[.int .u8 a4_0, .int .u8 a4_1, .int .u8 a4_2, .int .u8 a4_3, .int .u64 a4_4] 26 (0, 0)) (by (with_reducible repeat (first | refine blk_drewN ?_ _ | refine blk_drew ?_ | refine blk_alloc ?_ _)); exact BK371.out) hb)
        have n1_ := Aside0.mk (blk_below (g := gb372) (o := .cells #[.int .u8 a5_0, .int .u8 a5_1, .int .u8 a5_2, .int .u8 a5_3, .int .u64 a5_4] 26 (0, 0)) (by (with_reducible repeat (first | refine blk_drewN ?_ _ | refine blk_drew ?_ | refine blk_alloc ?_ _)); exact BK372.out) hb)
        have n2_ := Aside0.mk (below_step (by repeat (first | (with_reducible first | exact HB.out | apply below_alloc | apply pw_below_drewN | apply below_drew1 | refine below_set ?_ GE371.out | refine below_set ?_ GE372.out) | exact HB.out)) hb)
        clear BK371
        clear BK372
        clear HB
        have BK371 := n0_
        have BK372 := n1_
        have HB := n2_
        clear n0_ n1_ n2_
        (try clear hb)
        (try clear hb2)
        (try clear hk)
        (try clear hi)
        refine hK.out _ _ ⟨(blk_cell BK371.out 0).trans rfl, (blk_cell BK371.out 1).trans rfl, (blk_cell BK371.out 2).trans rfl, (blk_cell BK371.out 3).trans rfl, (blk_cell BK371.out 4).trans rfl, (blk_cell BK372.out 0).trans rfl, (blk_cell BK372.out 1).trans rfl, (blk_cell BK372.out 2).trans rfl, (blk_cell BK372.out 3).trans rfl, (blk_cell BK372.out 4).trans rfl⟩ (fun hHeld => ?_)
        clear hK K
        refine norm_ (a' := ?_) ?_ ?_
        rotate_left
        · show Act.put _ (some 54) _ = _
          simp only [Act.put, List.setIfInBounds_toArray, List.set_cons_zero, List.set_cons_succ, i64_w, i32_w]
          rfl
        refine pure_ (i := 8) (N := some 14) (v := ?_) (a' := ?_) #[true, true, true, true, true, true, true, true, true, false] rfl rfl (any_of HT_.out (by kernel_rfl)) (fun _ _ _ h => h) (Or.inl ⟨by rfl, ?_⟩) ?_ ?_
        rotate_left
        · intro w'
          go_simp
          with_reducible rfl
        rotate_left
        · simp only [Act.put, List.setIfInBounds_toArray, List.set_cons_zero, List.set_cons_succ, i64_w, i32_w]
          rfl
        refine pure_ (i := 9) (N := some 15) (v := ?_) (a' := ?_) #[true, true, true, true, true, true, true, true, true, true] rfl rfl (any_of HT_.out (by kernel_rfl)) (fun _ _ _ h => h) (Or.inl ⟨by rfl, ?_⟩) ?_ ?_
        rotate_left
        · intro w'
          go_simp
          with_reducible rfl
        rotate_left
        · simp only [Act.put, List.setIfInBounds_toArray, List.set_cons_zero, List.set_cons_succ, i64_w, i32_w]
          rfl
        refine done_ (done_of HT_.out (by kernel_rfl)) ?_
        go_upto_region 5 with (fail)
        go_cut [82] (fun v82 wc => ∃ (kq : Nat) (x82_19 : Bool), v82 = .bool x82_19 ∧ Aside0 (cornucopialaw21_LayoutApart.j1 kq a0 a1 x82_19 = some r) ∧ Aside0 (kq ≤ kj6) ∧ Aside0 (wc.heap[gb371]? = some (.cells #[.int .u8 a4_0, .int .u8 a4_1, .int .u8 a4_2, .int .u8 a4_3, .int .u64 a4_4] 26 (0, 0))) ∧ Aside0 (wc.heap[gb372]? = some (.cells #[.int .u8 a5_0, .int .u8 a5_1, .int .u8 a5_2, .int .u8 a5_3, .int .u64 a5_4] 26 (0, 0))) ∧ Aside0 (Below w.heap.size w wc))
        case first =>
          have H := HC20.out
          clear HC20
          by_cases c25 : (t375.size : Int) < (t374.size : Int)
          · rw [if_pos c25] at H
            have c25b0 : decide ((t375.size : Int) < (t374.size : Int)) = true := decide_eq_true c25
            have c25b1 : decide (t375.size < t374.size) = true := decide_eq_true (Int.ofNat_lt.mp c25)
            clear c25
            (first | rw [c25b0] | (simp only [i64_w, i32_w]; rw [c25b0]) | skip)
            have H' := Aside0.mk H
            clear H
            go_wp2
            go_meet
            case rel => exact ⟨_, (true), (by first | rfl | (simp; done) | (simp [*]; done)), H', ⟨by have := HJ6.out; first | omega | exact Nat.le_refl _⟩, ⟨by (with_reducible repeat (first | refine blk_drewN ?_ _ | refine blk_drew ?_ | refine blk_alloc ?_ _)); exact BK371.out⟩, ⟨by (with_reducible repeat (first | refine blk_drewN ?_ _ | refine blk_drew ?_ | refine blk_alloc ?_ _)); exact BK372.out⟩, ⟨by repeat (first | (with_reducible first | exact HB.out | apply below_alloc | apply pw_below_drewN | apply below_drew1 | refine below_set ?_ GE371.out | refine below_set ?_ GE372.out) | exact HB.out)⟩⟩
          · rw [if_neg c25] at H
            have c25b0 : decide ((t375.size : Int) < (t374.size : Int)) = false := decide_eq_false c25
            have c25b1 : decide (t375.size < t374.size) = false := decide_eq_false (fun h => c25 (Int.ofNat_lt.mpr h))
            clear c25
            (first | rw [c25b0] | (simp only [i64_w, i32_w]; rw [c25b0]) | skip)
            by_cases c26 : 0 ≤ (t374.size : Int)
            · rw [if_pos c26] at H
              have c26b0 := eq_true c26
              have c26b1 : decide (0 ≤ (t374.size : Int)) = true := decide_eq_true c26
              clear c26
              by_cases c27 : (t374.size : Int) ≤ (t375.size : Int)
              · rw [if_pos c27] at H
                have c27b0 := eq_true c27
                have c27b1 : decide ((t374.size : Int) ≤ (t375.size : Int)) = true := decide_eq_true c27
                clear c27
                by_cases c28 : (t375.extract 0 ((t374.size : Int) : Int).toNat).toList = t374.toList
                · rw [if_pos c28] at H
                  have c28b0 : ((t375.extract 0 ((t374.size : Int) : Int).toNat).toList == t374.toList) = true := beq_iff_eq.mpr c28
                  have c28z0 : ((t375.extract 0 t374.size).toList == t374.toList) = true := by simpa only [Int.toNat_natCast] using c28b0
                  have c28b1 : ((t375.extract 0 ((t374.size : Int) : Int).toNat).toList != t374.toList) = false := bne_eq_false_iff_eq.mpr c28
                  have c28z1 : ((t375.extract 0 t374.size).toList != t374.toList) = false := by simpa only [Int.toNat_natCast] using c28b1
                  clear c28
                  by_cases c29 : (t376.size : Int) ≥ (t374.size : Int)
                  · rw [if_pos c29] at H
                    have c29b0 : decide ((t374.size : Int) ≤ (t376.size : Int)) = true := decide_eq_true c29
                    have c29b1 : decide (t374.size ≤ t376.size) = true := decide_eq_true (Int.ofNat_le.mp c29)
                    clear c29
                    have c30b0 := eq_true (of_decide_eq_true (by first | (with_reducible assumption) | assumption) : 0 ≤ (t374.size : Int))
                    by_cases c31 : (t374.size : Int) ≤ (t376.size : Int)
                    · rw [if_pos c31] at H
                      have c31b0 := eq_true c31
                      have c31b1 : decide ((t374.size : Int) ≤ (t376.size : Int)) = true := decide_eq_true c31
                      clear c31
                      have H' := Aside0.mk H
                      clear H
                      go_wp2
                      go_meet
                      case rel => exact ⟨_, (((t376.extract 0 ((t374.size : Int) : Int).toNat).toList == t374.toList)), (by first | rfl | (simp; done) | (simp [*]; done)), H', ⟨by have := HJ6.out; first | omega | exact Nat.le_refl _⟩, ⟨by (with_reducible repeat (first | refine blk_drewN ?_ _ | refine blk_drew ?_ | refine blk_alloc ?_ _)); exact BK371.out⟩, ⟨by (with_reducible repeat (first | refine blk_drewN ?_ _ | refine blk_drew ?_ | refine blk_alloc ?_ _)); exact BK372.out⟩, ⟨by repeat (first | (with_reducible first | exact HB.out | apply below_alloc | apply pw_below_drewN | apply below_drew1 | refine below_set ?_ GE371.out | refine below_set ?_ GE372.out) | exact HB.out)⟩⟩
                    · rw [if_neg c31] at H
                      exact absurd H (by simp)
                  · rw [if_neg c29] at H
                    have c29b0 : decide ((t374.size : Int) ≤ (t376.size : Int)) = false := decide_eq_false c29
                    have c29b1 : decide (t374.size ≤ t376.size) = false := decide_eq_false (fun h => c29 (Int.ofNat_le.mpr h))
                    clear c29
                    have H' := Aside0.mk H
                    clear H
                    go_wp2
                    go_meet
                    case rel => exact ⟨_, (false), (by first | rfl | (simp; done) | (simp [*]; done)), H', ⟨by have := HJ6.out; first | omega | exact Nat.le_refl _⟩, ⟨by (with_reducible repeat (first | refine blk_drewN ?_ _ | refine blk_drew ?_ | refine blk_alloc ?_ _)); exact BK371.out⟩, ⟨by (with_reducible repeat (first | refine blk_drewN ?_ _ | refine blk_drew ?_ | refine blk_alloc ?_ _)); exact BK372.out⟩, ⟨by repeat (first | (with_reducible first | exact HB.out | apply below_alloc | apply pw_below_drewN | apply below_drew1 | refine below_set ?_ GE371.out | refine below_set ?_ GE372.out) | exact HB.out)⟩⟩
                · rw [if_neg c28] at H
                  have c28b0 : ((t375.extract 0 ((t374.size : Int) : Int).toNat).toList == t374.toList) = false := beq_eq_false_iff_ne.mpr c28
                  have c28z0 : ((t375.extract 0 t374.size).toList == t374.toList) = false := by simpa only [Int.toNat_natCast] using c28b0
                  have c28b1 : ((t375.extract 0 ((t374.size : Int) : Int).toNat).toList != t374.toList) = true := bne_iff_ne.mpr c28
                  have c28z1 : ((t375.extract 0 t374.size).toList != t374.toList) = true := by simpa only [Int.toNat_natCast] using c28b1
                  have H' := Aside0.mk H
                  clear H
                  go_wp2
                  go_meet
                  case rel => exact ⟨_, (true), (by first | rfl | (simp; done) | (simp [*]; done)), H', ⟨by have := HJ6.out; first | omega | exact Nat.le_refl _⟩, ⟨by (with_reducible repeat (first | refine blk_drewN ?_ _ | refine blk_drew ?_ | refine blk_alloc ?_ _)); exact BK371.out⟩, ⟨by (with_reducible repeat (first | refine blk_drewN ?_ _ | refine blk_drew ?_ | refine blk_alloc ?_ _)); exact BK372.out⟩, ⟨by repeat (first | (with_reducible first | exact HB.out | apply below_alloc | apply pw_below_drewN | apply below_drew1 | refine below_set ?_ GE371.out | refine below_set ?_ GE372.out) | exact HB.out)⟩⟩
              · rw [if_neg c27] at H
                exact absurd H (by simp)
            · rw [if_neg c26] at H
              exact absurd H (by simp)
        case rest =>
          clear HC20
          try clear c1
          try clear c2
          try clear p2
          try clear c3
          try clear c5
          try clear c6
          try clear c10
          try clear c10b0
          try clear c10b1
          try clear c11
          try clear c11b0
          try clear c11b1
          try clear c12
          try clear c12b0
          try clear c12b1
          try clear c13
          try clear c13b0
          try clear c13b1
          try clear c14
          try clear c15
          try clear c25
          try clear c25b0
          try clear c25b1
          try clear c26
          try clear c26b0
          try clear c26b1
          try clear c27
          try clear c27b0
          try clear c27b1
          try clear c28
          try clear c28b0
          try clear c28b1
          try clear c29
          try clear c29b0
          try clear c29b1
          try clear c30
          try clear c30b0
          try clear c31
          try clear c31b0
          try clear c31b1
          try clear p2
          obtain ⟨kq, x82_19, rfl, HA, HJ19, BK371, BK372, HB⟩ := hcut
          cases kq with
          | zero => exact absurd HA.out (by simp [cornucopialaw21_LayoutApart.j1])
          | succ kj19 =>
            have H := HA.out
            clear HA
            simp only [cornucopialaw21_LayoutApart.j1] at H
            by_cases c32 : x82_19 = true
            · subst c32
              have H1 : (none) = some r := by rw [if_pos rfl] at H; exact H
              clear H
              have H := H1
              clear H1
              exact absurd H (by simp)
            · replace c32 := Bool.eq_false_iff.mpr c32
              subst c32
              have H1 : (if a0.toList = a1.toList then ((cornucopialaw21_alive.f kj19).bind fun t377 => (some t377)) else ((layout_Ends.f kj19 a0).bind fun bt378 => ((layout_Ends.f kj19 a1).bind fun bt380 => ((cornucopialaw21_alive.f kj19).bind fun t382 => (if t382 = true then (if (Op.bytesLess bt378.1.toList bt378.2.toList) = true then (if ((Op.bytesLess bt380.1.toList bt378.2.toList) = true) then (if ((Op.bytesLess bt378.1.toList bt380.2.toList) = true) then (none) else ((layout_Key.f a0 1).bind fun t383 => ((layout_Key.f a1 1).bind fun t384 => (some (t383.toList != t384.toList))))) else ((layout_Key.f a0 1).bind fun t385 => ((layout_Key.f a1 1).bind fun t386 => (some (t385.toList != t386.toList))))) else (none)) else (none)))))) = some r := by rw [if_neg (show ¬ (false = true) by decide)] at H; exact H
              clear H
              have H := H1
              clear H1
              by_cases c33 : a0.toList = a1.toList
              · rw [if_pos c33] at H
                have c33b0 : (a0.toList == a1.toList) = true := beq_iff_eq.mpr c33
                have c33b1 : (a0.toList != a1.toList) = false := bne_eq_false_iff_eq.mpr c33
                clear c33
                replace H := Option.bind_eq_some_iff.mp H
                obtain ⟨t377, A340, H⟩ := H
                replace H : (some t377) = some r := H
                have A34 := Aside0.mk A340
                clear A340
                obtain rfl := Option.some.inj H
                go_wp2_with (first | ((with_reducible refine gate_callee (f := 6) rfl ?_); refine goesL_ (some 86) rfl rfl Tryd.func6 (by kernel_rfl) rfl #[] rfl (by (try simp only [List.map_toArray, List.map_cons, List.map_nil]); first | done | rfl | (simp only [List.length_drop, List.length_take]; rfl)) ?_; (with_reducible refine (cornucopialaw21_alive.calls kj19  t377 _ A34.out).mono ?_); rintro e w35 ⟨rfl, hb⟩; refine ⟨_, rfl, ?_⟩; have n0_ := Aside0.mk (blk_below (g := gb371) (o := .cells #[.int .u8 a4_0, .int .u8 a4_1, .int .u8 a4_2, .int .u8 a4_3, .int .u64 a4_4] 26 (0, 0)) (by (with_reducible repeat (first | refine blk_drewN ?_ _ | refine blk_drew ?_ | refine blk_alloc ?_ _)); exact BK371.out) hb); have n1_ := Aside0.mk (blk_below (g := gb372) (o := .cells #[.int .u8 a5_0, .int .u8 a5_1, .int .u8 a5_2, .int .u8 a5_3, .int .u64 a5_4] 26 (0, 0)) (by (with_reducible repeat (first | refine blk_drewN ?_ _ | refine blk_drew ?_ | refine blk_alloc ?_ _)); exact BK372.out) hb); have n2_ := Aside0.mk (below_step (by repeat (first | (with_reducible first | exact HB.out | apply below_alloc | apply pw_below_drewN | apply below_drew1 | refine below_set ?_ GE371.out | refine below_set ?_ GE372.out) | exact HB.out)) hb); clear BK371; clear BK372; clear HB; have BK371 := n0_; have BK372 := n1_; have HB := n2_; clear n0_ n1_ n2_; (try clear hb); (try clear hb2); (try clear hk); (try clear hi)))
                go_ret
                exact ⟨by first | rfl | (simp [errW_none, errW_some] <;> rfl) | (simp [*, errW_none, errW_some] <;> rfl), by repeat (first | (with_reducible first | exact HB.out | apply below_alloc | apply pw_below_drewN | apply below_drew1 | refine below_set ?_ GE371.out | refine below_set ?_ GE372.out) | exact HB.out)⟩
              · rw [if_neg c33] at H
                have c33b0 : (a0.toList == a1.toList) = false := beq_eq_false_iff_ne.mpr c33
                have c33b1 : (a0.toList != a1.toList) = true := bne_iff_ne.mpr c33
                replace H := Option.bind_eq_some_iff.mp H
                obtain ⟨⟨t378, t379⟩, A360, H⟩ := H
                replace H : ((layout_Ends.f kj19 a1).bind fun bt380 => ((cornucopialaw21_alive.f kj19).bind fun t382 => (if t382 = true then (if (Op.bytesLess t378.toList t379.toList) = true then (if ((Op.bytesLess bt380.1.toList t379.toList) = true) then (if ((Op.bytesLess t378.toList bt380.2.toList) = true) then (none) else ((layout_Key.f a0 1).bind fun t383 => ((layout_Key.f a1 1).bind fun t384 => (some (t383.toList != t384.toList))))) else ((layout_Key.f a0 1).bind fun t385 => ((layout_Key.f a1 1).bind fun t386 => (some (t385.toList != t386.toList))))) else (none)) else (none)))) = some r := H
                have A36 := Aside0.mk A360
                clear A360
                replace H := Option.bind_eq_some_iff.mp H
                obtain ⟨⟨t380, t381⟩, A370, H⟩ := H
                replace H : ((cornucopialaw21_alive.f kj19).bind fun t382 => (if t382 = true then (if (Op.bytesLess t378.toList t379.toList) = true then (if ((Op.bytesLess t380.toList t379.toList) = true) then (if ((Op.bytesLess t378.toList t381.toList) = true) then (none) else ((layout_Key.f a0 1).bind fun t383 => ((layout_Key.f a1 1).bind fun t384 => (some (t383.toList != t384.toList))))) else ((layout_Key.f a0 1).bind fun t385 => ((layout_Key.f a1 1).bind fun t386 => (some (t385.toList != t386.toList))))) else (none)) else (none))) = some r := H
                have A37 := Aside0.mk A370
                clear A370
                replace H := Option.bind_eq_some_iff.mp H
                obtain ⟨t382, A380, H⟩ := H
                replace H : (if t382 = true then (if (Op.bytesLess t378.toList t379.toList) = true then (if ((Op.bytesLess t380.toList t379.toList) = true) then (if ((Op.bytesLess t378.toList t381.toList) = true) then (none) else ((layout_Key.f a0 1).bind fun t383 => ((layout_Key.f a1 1).bind fun t384 => (some (t383.toList != t384.toList))))) else ((layout_Key.f a0 1).bind fun t385 => ((layout_Key.f a1 1).bind fun t386 => (some (t385.toList != t386.toList))))) else (none)) else (none)) = some r := H
                have A38 := Aside0.mk A380
                clear A380
                by_cases c39 : t382 = true
                · subst c39
                  have H1 : (if (Op.bytesLess t378.toList t379.toList) = true then (if ((Op.bytesLess t380.toList t379.toList) = true) then (if ((Op.bytesLess t378.toList t381.toList) = true) then (none) else ((layout_Key.f a0 1).bind fun t383 => ((layout_Key.f a1 1).bind fun t384 => (some (t383.toList != t384.toList))))) else ((layout_Key.f a0 1).bind fun t385 => ((layout_Key.f a1 1).bind fun t386 => (some (t385.toList != t386.toList))))) else (none)) = some r := by rw [if_pos rfl] at H; exact H
                  clear H
                  have H := H1
                  clear H1
                  by_cases c40 : (Op.bytesLess t378.toList t379.toList) = true
                  · rw [if_pos c40] at H
                    have c40b0 : (Op.bytesLess t378.toList t379.toList) = true := c40
                    clear c40
                    by_cases c41 : ((Op.bytesLess t380.toList t379.toList) = true)
                    · rw [if_pos c41] at H
                      have c41b0 : (Op.bytesLess t380.toList t379.toList) = true := c41
                      clear c41
                      by_cases c42 : ((Op.bytesLess t378.toList t381.toList) = true)
                      · rw [if_pos c42] at H
                        exact absurd H (by simp)
                      · rw [if_neg c42] at H
                        have c42b0 : (Op.bytesLess t378.toList t381.toList) = false := by simpa using c42
                        clear c42
                        replace H := Option.bind_eq_some_iff.mp H
                        obtain ⟨t383, A430, H⟩ := H
                        replace H : ((layout_Key.f a1 1).bind fun t384 => (some (t383.toList != t384.toList))) = some r := H
                        have A43 := Aside0.mk A430
                        clear A430
                        replace H := Option.bind_eq_some_iff.mp H
                        obtain ⟨t384, A440, H⟩ := H
                        replace H : (some (t383.toList != t384.toList)) = some r := H
                        have A44 := Aside0.mk A440
                        clear A440
                        obtain rfl := Option.some.inj H
                        go_wp2_with (first | ((with_reducible refine gate_callee (f := 9) rfl ?_); refine goesL_ (some 89) rfl rfl Tryd.func9 (by kernel_rfl) rfl #[.string a0] rfl (by (try simp only [List.map_toArray, List.map_cons, List.map_nil]); first | done | rfl | (simp only [List.length_drop, List.length_take]; rfl)) ?_; (with_reducible refine (layout_Ends.calls kj19 a0 t378 t379 _ A36.out).mono ?_); rintro e w45 ⟨rfl, hb⟩; refine ⟨_, rfl, ?_⟩; have n0_ := Aside0.mk (blk_below (g := gb371) (o := .cells #[.int .u8 a4_0, .int .u8 a4_1, .int .u8 a4_2, .int .u8 a4_3, .int .u64 a4_4] 26 (0, 0)) (by (with_reducible repeat (first | refine blk_drewN ?_ _ | refine blk_drew ?_ | refine blk_alloc ?_ _)); exact BK371.out) hb); have n1_ := Aside0.mk (blk_below (g := gb372) (o := .cells #[.int .u8 a5_0, .int .u8 a5_1, .int .u8 a5_2, .int .u8 a5_3, .int .u64 a5_4] 26 (0, 0)) (by (with_reducible repeat (first | refine blk_drewN ?_ _ | refine blk_drew ?_ | refine blk_alloc ?_ _)); exact BK372.out) hb); have n2_ := Aside0.mk (below_step (by repeat (first | (with_reducible first | exact HB.out | apply below_alloc | apply pw_below_drewN | apply below_drew1 | refine below_set ?_ GE371.out | refine below_set ?_ GE372.out) | exact HB.out)) hb); clear BK371; clear BK372; clear HB; have BK371 := n0_; have BK372 := n1_; have HB := n2_; clear n0_ n1_ n2_; (try clear hb); (try clear hb2); (try clear hk); (try clear hi)) | ((with_reducible refine gate_callee (f := 9) rfl ?_); refine goesL_ (some 94) rfl rfl Tryd.func9 (by kernel_rfl) rfl #[.string a1] rfl (by (try simp only [List.map_toArray, List.map_cons, List.map_nil]); first | done | rfl | (simp only [List.length_drop, List.length_take]; rfl)) ?_; (with_reducible refine (layout_Ends.calls kj19 a1 t380 t381 _ A37.out).mono ?_); rintro e w46 ⟨rfl, hb⟩; refine ⟨_, rfl, ?_⟩; have n0_ := Aside0.mk (blk_below (g := gb371) (o := .cells #[.int .u8 a4_0, .int .u8 a4_1, .int .u8 a4_2, .int .u8 a4_3, .int .u64 a4_4] 26 (0, 0)) (by (with_reducible repeat (first | refine blk_drewN ?_ _ | refine blk_drew ?_ | refine blk_alloc ?_ _)); exact BK371.out) hb); have n1_ := Aside0.mk (blk_below (g := gb372) (o := .cells #[.int .u8 a5_0, .int .u8 a5_1, .int .u8 a5_2, .int .u8 a5_3, .int .u64 a5_4] 26 (0, 0)) (by (with_reducible repeat (first | refine blk_drewN ?_ _ | refine blk_drew ?_ | refine blk_alloc ?_ _)); exact BK372.out) hb); have n2_ := Aside0.mk (below_step (by repeat (first | (with_reducible first | exact HB.out | apply below_alloc | apply pw_below_drewN | apply below_drew1 | refine below_set ?_ GE371.out | refine below_set ?_ GE372.out) | exact HB.out)) hb); clear BK371; clear BK372; clear HB; have BK371 := n0_; have BK372 := n1_; have HB := n2_; clear n0_ n1_ n2_; (try clear hb); (try clear hb2); (try clear hk); (try clear hi)) | ((with_reducible refine gate_callee (f := 6) rfl ?_); refine goesL_ (some 97) rfl rfl Tryd.func6 (by kernel_rfl) rfl #[] rfl (by (try simp only [List.map_toArray, List.map_cons, List.map_nil]); first | done | rfl | (simp only [List.length_drop, List.length_take]; rfl)) ?_; (with_reducible refine (cornucopialaw21_alive.calls kj19  true _ A38.out).mono ?_); rintro e w47 ⟨rfl, hb⟩; refine ⟨_, rfl, ?_⟩; have n0_ := Aside0.mk (blk_below (g := gb371) (o := .cells #[.int .u8 a4_0, .int .u8 a4_1, .int .u8 a4_2, .int .u8 a4_3, .int .u64 a4_4] 26 (0, 0)) (by (with_reducible repeat (first | refine blk_drewN ?_ _ | refine blk_drew ?_ | refine blk_alloc ?_ _)); exact BK371.out) hb); have n1_ := Aside0.mk (blk_below (g := gb372) (o := .cells #[.int .u8 a5_0, .int .u8 a5_1, .int .u8 a5_2, .int .u8 a5_3, .int .u64 a5_4] 26 (0, 0)) (by (with_reducible repeat (first | refine blk_drewN ?_ _ | refine blk_drew ?_ | refine blk_alloc ?_ _)); exact BK372.out) hb); have n2_ := Aside0.mk (below_step (by repeat (first | (with_reducible first | exact HB.out | apply below_alloc | apply pw_below_drewN | apply below_drew1 | refine below_set ?_ GE371.out | refine below_set ?_ GE372.out) | exact HB.out)) hb); clear BK371; clear BK372; clear HB; have BK371 := n0_; have BK372 := n1_; have HB := n2_; clear n0_ n1_ n2_; (try clear hb); (try clear hb2); (try clear hk); (try clear hi)) | (go_at_call 11; (with_reducible refine (layout_Key.calls a0 1 t383 _ A43.out).mono ?_); rintro e w48 ⟨rfl, hb⟩; have n0_ := Aside0.mk (blk_below (g := gb371) (o := .cells #[.int .u8 a4_0, .int .u8 a4_1, .int .u8 a4_2, .int .u8 a4_3, .int .u64 a4_4] 26 (0, 0)) (by (with_reducible repeat (first | refine blk_drewN ?_ _ | refine blk_drew ?_ | refine blk_alloc ?_ _)); exact BK371.out) hb); have n1_ := Aside0.mk (blk_below (g := gb372) (o := .cells #[.int .u8 a5_0, .int .u8 a5_1, .int .u8 a5_2, .int .u8 a5_3, .int .u64 a5_4] 26 (0, 0)) (by (with_reducible repeat (first | refine blk_drewN ?_ _ | refine blk_drew ?_ | refine blk_alloc ?_ _)); exact BK372.out) hb); have n2_ := Aside0.mk (below_step (by repeat (first | (with_reducible first | exact HB.out | apply below_alloc | apply pw_below_drewN | apply below_drew1 | refine below_set ?_ GE371.out | refine below_set ?_ GE372.out) | exact HB.out)) hb); clear BK371; clear BK372; clear HB; have BK371 := n0_; have BK372 := n1_; have HB := n2_; clear n0_ n1_ n2_; (try clear hb); (try clear hb2); (try clear hk); (try clear hi)) | (go_at_call 11; (with_reducible refine (layout_Key.calls a1 1 t384 _ A44.out).mono ?_); rintro e w49 ⟨rfl, hb⟩; have n0_ := Aside0.mk (blk_below (g := gb371) (o := .cells #[.int .u8 a4_0, .int .u8 a4_1, .int .u8 a4_2, .int .u8 a4_3, .int .u64 a4_4] 26 (0, 0)) (by (with_reducible repeat (first | refine blk_drewN ?_ _ | refine blk_drew ?_ | refine blk_alloc ?_ _)); exact BK371.out) hb); have n1_ := Aside0.mk (blk_below (g := gb372) (o := .cells #[.int .u8 a5_0, .int .u8 a5_1, .int .u8 a5_2, .int .u8 a5_3, .int .u64 a5_4] 26 (0, 0)) (by (with_reducible repeat (first | refine blk_drewN ?_ _ | refine blk_drew ?_ | refine blk_alloc ?_ _)); exact BK372.out) hb); have n2_ := Aside0.mk (below_step (by repeat (first | (with_reducible first | exact HB.out | apply below_alloc | apply pw_below_drewN | apply below_drew1 | refine below_set ?_ GE371.out | refine below_set ?_ GE372.out) | exact HB.out)) hb); clear BK371; clear BK372; clear HB; have BK371 := n0_; have BK372 := n1_; have HB := n2_; clear n0_ n1_ n2_; (try clear hb); (try clear hb2); (try clear hk); (try clear hi)))
                        go_ret
                        exact ⟨by first | rfl | (simp [errW_none, errW_some] <;> rfl) | (simp [*, errW_none, errW_some] <;> rfl), by repeat (first | (with_reducible first | exact HB.out | apply below_alloc | apply pw_below_drewN | apply below_drew1 | refine below_set ?_ GE371.out | refine below_set ?_ GE372.out) | exact HB.out)⟩
                    · rw [if_neg c41] at H
                      have c41b0 : (Op.bytesLess t380.toList t379.toList) = false := by simpa using c41
                      clear c41
                      replace H := Option.bind_eq_some_iff.mp H
                      obtain ⟨t385, A500, H⟩ := H
                      replace H : ((layout_Key.f a1 1).bind fun t386 => (some (t385.toList != t386.toList))) = some r := H
                      have A50 := Aside0.mk A500
                      clear A500
                      replace H := Option.bind_eq_some_iff.mp H
                      obtain ⟨t386, A510, H⟩ := H
                      replace H : (some (t385.toList != t386.toList)) = some r := H
                      have A51 := Aside0.mk A510
                      clear A510
                      obtain rfl := Option.some.inj H
                      go_wp2_with (first | ((with_reducible refine gate_callee (f := 9) rfl ?_); refine goesL_ (some 89) rfl rfl Tryd.func9 (by kernel_rfl) rfl #[.string a0] rfl (by (try simp only [List.map_toArray, List.map_cons, List.map_nil]); first | done | rfl | (simp only [List.length_drop, List.length_take]; rfl)) ?_; (with_reducible refine (layout_Ends.calls kj19 a0 t378 t379 _ A36.out).mono ?_); rintro e w52 ⟨rfl, hb⟩; refine ⟨_, rfl, ?_⟩; have n0_ := Aside0.mk (blk_below (g := gb371) (o := .cells #[.int .u8 a4_0, .int .u8 a4_1, .int .u8 a4_2, .int .u8 a4_3, .int .u64 a4_4] 26 (0, 0)) (by (with_reducible repeat (first | refine blk_drewN ?_ _ | refine blk_drew ?_ | refine blk_alloc ?_ _)); exact BK371.out) hb); have n1_ := Aside0.mk (blk_below (g := gb372) (o := .cells #[.int .u8 a5_0, .int .u8 a5_1, .int .u8 a5_2, .int .u8 a5_3, .int .u64 a5_4] 26 (0, 0)) (by (with_reducible repeat (first | refine blk_drewN ?_ _ | refine blk_drew ?_ | refine blk_alloc ?_ _)); exact BK372.out) hb); have n2_ := Aside0.mk (below_step (by repeat (first | (with_reducible first | exact HB.out | apply below_alloc | apply pw_below_drewN | apply below_drew1 | refine below_set ?_ GE371.out | refine below_set ?_ GE372.out) | exact HB.out)) hb); clear BK371; clear BK372; clear HB; have BK371 := n0_; have BK372 := n1_; have HB := n2_; clear n0_ n1_ n2_; (try clear hb); (try clear hb2); (try clear hk); (try clear hi)) | ((with_reducible refine gate_callee (f := 9) rfl ?_); refine goesL_ (some 94) rfl rfl Tryd.func9 (by kernel_rfl) rfl #[.string a1] rfl (by (try simp only [List.map_toArray, List.map_cons, List.map_nil]); first | done | rfl | (simp only [List.length_drop, List.length_take]; rfl)) ?_; (with_reducible refine (layout_Ends.calls kj19 a1 t380 t381 _ A37.out).mono ?_); rintro e w53 ⟨rfl, hb⟩; refine ⟨_, rfl, ?_⟩; have n0_ := Aside0.mk (blk_below (g := gb371) (o := .cells #[.int .u8 a4_0, .int .u8 a4_1, .int .u8 a4_2, .int .u8 a4_3, .int .u64 a4_4] 26 (0, 0)) (by (with_reducible repeat (first | refine blk_drewN ?_ _ | refine blk_drew ?_ | refine blk_alloc ?_ _)); exact BK371.out) hb); have n1_ := Aside0.mk (blk_below (g := gb372) (o := .cells #[.int .u8 a5_0, .int .u8 a5_1, .int .u8 a5_2, .int .u8 a5_3, .int .u64 a5_4] 26 (0, 0)) (by (with_reducible repeat (first | refine blk_drewN ?_ _ | refine blk_drew ?_ | refine blk_alloc ?_ _)); exact BK372.out) hb); have n2_ := Aside0.mk (below_step (by repeat (first | (with_reducible first | exact HB.out | apply below_alloc | apply pw_below_drewN | apply below_drew1 | refine below_set ?_ GE371.out | refine below_set ?_ GE372.out) | exact HB.out)) hb); clear BK371; clear BK372; clear HB; have BK371 := n0_; have BK372 := n1_; have HB := n2_; clear n0_ n1_ n2_; (try clear hb); (try clear hb2); (try clear hk); (try clear hi)) | ((with_reducible refine gate_callee (f := 6) rfl ?_); refine goesL_ (some 97) rfl rfl Tryd.func6 (by kernel_rfl) rfl #[] rfl (by (try simp only [List.map_toArray, List.map_cons, List.map_nil]); first | done | rfl | (simp only [List.length_drop, List.length_take]; rfl)) ?_; (with_reducible refine (cornucopialaw21_alive.calls kj19  true _ A38.out).mono ?_); rintro e w54 ⟨rfl, hb⟩; refine ⟨_, rfl, ?_⟩; have n0_ := Aside0.mk (blk_below (g := gb371) (o := .cells #[.int .u8 a4_0, .int .u8 a4_1, .int .u8 a4_2, .int .u8 a4_3, .int .u64 a4_4] 26 (0, 0)) (by (with_reducible repeat (first | refine blk_drewN ?_ _ | refine blk_drew ?_ | refine blk_alloc ?_ _)); exact BK371.out) hb); have n1_ := Aside0.mk (blk_below (g := gb372) (o := .cells #[.int .u8 a5_0, .int .u8 a5_1, .int .u8 a5_2, .int .u8 a5_3, .int .u64 a5_4] 26 (0, 0)) (by (with_reducible repeat (first | refine blk_drewN ?_ _ | refine blk_drew ?_ | refine blk_alloc ?_ _)); exact BK372.out) hb); have n2_ := Aside0.mk (below_step (by repeat (first | (with_reducible first | exact HB.out | apply below_alloc | apply pw_below_drewN | apply below_drew1 | refine below_set ?_ GE371.out | refine below_set ?_ GE372.out) | exact HB.out)) hb); clear BK371; clear BK372; clear HB; have BK371 := n0_; have BK372 := n1_; have HB := n2_; clear n0_ n1_ n2_; (try clear hb); (try clear hb2); (try clear hk); (try clear hi)) | (go_at_call 11; (with_reducible refine (layout_Key.calls a0 1 t385 _ A50.out).mono ?_); rintro e w55 ⟨rfl, hb⟩; have n0_ := Aside0.mk (blk_below (g := gb371) (o := .cells #[.int .u8 a4_0, .int .u8 a4_1, .int .u8 a4_2, .int .u8 a4_3, .int .u64 a4_4] 26 (0, 0)) (by (with_reducible repeat (first | refine blk_drewN ?_ _ | refine blk_drew ?_ | refine blk_alloc ?_ _)); exact BK371.out) hb); have n1_ := Aside0.mk (blk_below (g := gb372) (o := .cells #[.int .u8 a5_0, .int .u8 a5_1, .int .u8 a5_2, .int .u8 a5_3, .int .u64 a5_4] 26 (0, 0)) (by (with_reducible repeat (first | refine blk_drewN ?_ _ | refine blk_drew ?_ | refine blk_alloc ?_ _)); exact BK372.out) hb); have n2_ := Aside0.mk (below_step (by repeat (first | (with_reducible first | exact HB.out | apply below_alloc | apply pw_below_drewN | apply below_drew1 | refine below_set ?_ GE371.out | refine below_set ?_ GE372.out) | exact HB.out)) hb); clear BK371; clear BK372; clear HB; have BK371 := n0_; have BK372 := n1_; have HB := n2_; clear n0_ n1_ n2_; (try clear hb); (try clear hb2); (try clear hk); (try clear hi)) | (go_at_call 11; (with_reducible refine (layout_Key.calls a1 1 t386 _ A51.out).mono ?_); rintro e w56 ⟨rfl, hb⟩; have n0_ := Aside0.mk (blk_below (g := gb371) (o := .cells #[.int .u8 a4_0, .int .u8 a4_1, .int .u8 a4_2, .int .u8 a4_3, .int .u64 a4_4] 26 (0, 0)) (by (with_reducible repeat (first | refine blk_drewN ?_ _ | refine blk_drew ?_ | refine blk_alloc ?_ _)); exact BK371.out) hb); have n1_ := Aside0.mk (blk_below (g := gb372) (o := .cells #[.int .u8 a5_0, .int .u8 a5_1, .int .u8 a5_2, .int .u8 a5_3, .int .u64 a5_4] 26 (0, 0)) (by (with_reducible repeat (first | refine blk_drewN ?_ _ | refine blk_drew ?_ | refine blk_alloc ?_ _)); exact BK372.out) hb); have n2_ := Aside0.mk (below_step (by repeat (first | (with_reducible first | exact HB.out | apply below_alloc | apply pw_below_drewN | apply below_drew1 | refine below_set ?_ GE371.out | refine below_set ?_ GE372.out) | exact HB.out)) hb); clear BK371; clear BK372; clear HB; have BK371 := n0_; have BK372 := n1_; have HB := n2_; clear n0_ n1_ n2_; (try clear hb); (try clear hb2); (try clear hk); (try clear hi)))
                      go_ret
                      exact ⟨by first | rfl | (simp [errW_none, errW_some] <;> rfl) | (simp [*, errW_none, errW_some] <;> rfl), by repeat (first | (with_reducible first | exact HB.out | apply below_alloc | apply pw_below_drewN | apply below_drew1 | refine below_set ?_ GE371.out | refine below_set ?_ GE372.out) | exact HB.out)⟩
                  · rw [if_neg c40] at H
                    exact absurd H (by simp)
                · replace c39 := Bool.eq_false_iff.mpr c39
                  subst c39
                  have H1 : (none) = some r := by rw [if_neg (show ¬ (false = true) by decide)] at H; exact H
                  clear H
                  have H := H1
                  clear H1
                  exact absurd H (by simp)

end Go.Proofs.YtdigpaniganndaaDoor.PAll
