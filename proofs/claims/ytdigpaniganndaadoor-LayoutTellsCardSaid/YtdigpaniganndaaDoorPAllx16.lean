-- Printed by a program of this session (wip/drive.py, over the kit's print.py with its own changes). Lean checks it.
import Derived.Test.YtdigpaniganndaaDoorPAllx0
import Derived.Test.YtdigpaniganndaaDoorPAllx12
import Derived.Test.YtdigpaniganndaaDoorPAllx14
import Derived.Test.YtdigpaniganndaaDoorPAllx15
namespace Go.Proofs.YtdigpaniganndaaDoor.PAll
open Go.RowKit Go.Proofs.YtdigpaniganndaaDoorW.PrintWords Go.Proofs.YtdigpaniganndaaDoorW.PrintLast Go.Proofs.YtdigpaniganndaaDoorW.PrintMore
attribute [local go_sem] max2_int min2_int max_two min_two max_three min_three max_four min_four   -- for this text's walks alone
set_option linter.unusedVariables false
set_option linter.unusedSimpArgs false

/-! ### cornucopiaref20_Parse: function 8 -/
mutual
def cornucopiaref20_Parse.j0 : Nat → ByteArray → Bool → Option (ByteArray × Int × ByteArray × Int × Int × Int × Int × Int × Int)
  | 0, _, _ => none
  | k + 1, x0, x15 => if x15 = true then (some ((⟨#[]⟩ : ByteArray), 0, (⟨#[]⟩ : ByteArray), 0, 0, 0, 0, 0, 4)) else (if 1 ≤ (x0.size : Int) then ((cornucopiaref1_Get.f k (x0.extract 1 x0.size) (([1] : List Int))).bind fun bt230 => (if bt230.2.2 = 0 then (if bt230.2.1.toList = ([] : List UInt8) then (cornucopiaref20_Parse.j1 k bt230.1 bt230.2.1 true) else (if 0 < (bt230.2.1.size : Int) then (cornucopiaref20_Parse.j1 k bt230.1 bt230.2.1 (decide ((bt bt230.2.1 0) > 3))) else (none))) else (cornucopiaref20_Parse.j1 k bt230.1 bt230.2.1 true))) else (none))
def cornucopiaref20_Parse.j1 : Nat → List (S57) → ByteArray → Bool → Option (ByteArray × Int × ByteArray × Int × Int × Int × Int × Int × Int)
  | 0, _, _, _ => none
  | k + 1, x4, x5, x35 => if x35 = true then (some ((⟨#[]⟩ : ByteArray), 0, (⟨#[]⟩ : ByteArray), 0, 0, 0, 0, 0, 4)) else (if 0 < (x4.length : Int) then (if 0 < (x5.size : Int) then ((cornucopiaref20_ValidName.f ((rd_T57 x4 0).f1)).bind fun t237 => (if t237 = true then (if (wrap64 (bt x5 0)) < 3 then (cornucopiaref20_Parse.j2 k x5 (decide ((x5.size : Int) > 1)) ((rd_T57 x4 0).f1) (wrap64 (bt x5 0)) (⟨#[]⟩ : ByteArray) 0 0 0 0 0) else (cornucopiaref20_Parse.j2 k x5 false ((rd_T57 x4 0).f1) (wrap64 (bt x5 0)) (⟨#[]⟩ : ByteArray) 0 0 0 0 0)) else (cornucopiaref20_Parse.j2 k x5 true ((rd_T57 x4 0).f1) (wrap64 (bt x5 0)) (⟨#[]⟩ : ByteArray) 0 0 0 0 0))) else (none)) else (none))
def cornucopiaref20_Parse.j2 : Nat → ByteArray → Bool → ByteArray → Int → ByteArray → Int → Int → Int → Int → Int → Option (ByteArray × Int × ByteArray × Int × Int × Int × Int × Int × Int)
  | 0, _, _, _, _, _, _, _, _, _, _ => none
  | k + 1, x5, x58, x237000, x237001, x237002, x237003, x237004, x237005, x237006, x237007 => if x58 = true then (some ((⟨#[]⟩ : ByteArray), 0, (⟨#[]⟩ : ByteArray), 0, 0, 0, 0, 0, 4)) else (if x237001 < 3 then (some (x237000, x237001, x237002, x237003, x237004, x237005, x237006, x237007, 0)) else (if 1 ≤ (x5.size : Int) then ((cornucopiaref1_Get.f k (x5.extract 1 x5.size) (([1] : List Int))).bind fun bt241 => (if bt241.2.2 = 0 then (if 0 < (bt241.1.length : Int) then ((cornucopiaref17_Parse.f k bt241.2.1).bind fun bt247 => (if bt247.2.2.2.2.2 = 0 then ((cornucopiaref20_ValidElem.f ((rd_T57 bt241.1 0).f1)).bind fun t254 => (if t254 = true then (some (x237000, x237001, (rd_T57 bt241.1 0).f1, bt247.1, bt247.2.1, bt247.2.2.1, bt247.2.2.2.1, bt247.2.2.2.2.1, 0)) else (some ((⟨#[]⟩ : ByteArray), 0, (⟨#[]⟩ : ByteArray), 0, 0, 0, 0, 0, 4)))) else (some ((⟨#[]⟩ : ByteArray), 0, (⟨#[]⟩ : ByteArray), 0, 0, 0, 0, 0, 4)))) else (none)) else (some ((⟨#[]⟩ : ByteArray), 0, (⟨#[]⟩ : ByteArray), 0, 0, 0, 0, 0, 4)))) else (none)))
end
def cornucopiaref20_Parse.f (k : Nat) (a0 : ByteArray) : Option (ByteArray × Int × ByteArray × Int × Int × Int × Int × Int × Int) := if a0.toList = ([] : List UInt8) then (cornucopiaref20_Parse.j0 k a0 true) else (if 0 < (a0.size : Int) then (cornucopiaref20_Parse.j0 k a0 ((bt a0 0) != 111)) else (none))
theorem cornucopiaref20_Parse.mono_l : ∀ k, (∀ y0 y1, LeO (cornucopiaref20_Parse.j0 k y0 y1) (cornucopiaref20_Parse.j0 (k + 1) y0 y1)) ∧ (∀ y0 y1 y2, LeO (cornucopiaref20_Parse.j1 k y0 y1 y2) (cornucopiaref20_Parse.j1 (k + 1) y0 y1 y2)) ∧ (∀ y0 y1 y2 y3 y4 y5 y6 y7 y8 y9, LeO (cornucopiaref20_Parse.j2 k y0 y1 y2 y3 y4 y5 y6 y7 y8 y9) (cornucopiaref20_Parse.j2 (k + 1) y0 y1 y2 y3 y4 y5 y6 y7 y8 y9))
  | 0 => ⟨fun _ _ r h => by simp [cornucopiaref20_Parse.j0] at h, fun _ _ _ r h => by simp [cornucopiaref20_Parse.j1] at h, fun _ _ _ _ _ _ _ _ _ _ r h => by simp [cornucopiaref20_Parse.j2] at h⟩
  | k + 1 => by
    obtain ⟨ih0, ih1, ih2⟩ := cornucopiaref20_Parse.mono_l k
    refine ⟨?_, ?_, ?_⟩
    · intro y0 y1
      unfold cornucopiaref20_Parse.j0
      repeat' first
      | (with_reducible exact ih0 _ _)
      | (with_reducible exact ih1 _ _ _)
      | (with_reducible exact ih2 _ _ _ _ _ _ _ _ _ _)
      | (with_reducible exact cornucopiaref17_Parse.mono _ _)
      | (with_reducible exact cornucopiaref1_Get.mono _ _ _)
      | (with_reducible exact LeO.refl _)
      | (with_reducible exact LeO.none _)
      | (with_reducible refine LeO.ite ?_ ?_)
      | (with_reducible refine LeO.bind ?_ (fun _ => ?_))
      | exact ih0 _ _
      | exact ih1 _ _ _
      | exact ih2 _ _ _ _ _ _ _ _ _ _
      | exact cornucopiaref17_Parse.mono _ _
      | exact cornucopiaref1_Get.mono _ _ _
      | exact LeO.none _
      | refine LeO.ite ?_ ?_
      | refine LeO.bind ?_ (fun _ => ?_)
    · intro y0 y1 y2
      unfold cornucopiaref20_Parse.j1
      repeat' first
      | (with_reducible exact ih0 _ _)
      | (with_reducible exact ih1 _ _ _)
      | (with_reducible exact ih2 _ _ _ _ _ _ _ _ _ _)
      | (with_reducible exact cornucopiaref17_Parse.mono _ _)
      | (with_reducible exact cornucopiaref1_Get.mono _ _ _)
      | (with_reducible exact LeO.refl _)
      | (with_reducible exact LeO.none _)
      | (with_reducible refine LeO.ite ?_ ?_)
      | (with_reducible refine LeO.bind ?_ (fun _ => ?_))
      | exact ih0 _ _
      | exact ih1 _ _ _
      | exact ih2 _ _ _ _ _ _ _ _ _ _
      | exact cornucopiaref17_Parse.mono _ _
      | exact cornucopiaref1_Get.mono _ _ _
      | exact LeO.none _
      | refine LeO.ite ?_ ?_
      | refine LeO.bind ?_ (fun _ => ?_)
    · intro y0 y1 y2 y3 y4 y5 y6 y7 y8 y9
      unfold cornucopiaref20_Parse.j2
      repeat' first
      | (with_reducible exact ih0 _ _)
      | (with_reducible exact ih1 _ _ _)
      | (with_reducible exact ih2 _ _ _ _ _ _ _ _ _ _)
      | (with_reducible exact cornucopiaref17_Parse.mono _ _)
      | (with_reducible exact cornucopiaref1_Get.mono _ _ _)
      | (with_reducible exact LeO.refl _)
      | (with_reducible exact LeO.none _)
      | (with_reducible refine LeO.ite ?_ ?_)
      | (with_reducible refine LeO.bind ?_ (fun _ => ?_))
      | exact ih0 _ _
      | exact ih1 _ _ _
      | exact ih2 _ _ _ _ _ _ _ _ _ _
      | exact cornucopiaref17_Parse.mono _ _
      | exact cornucopiaref1_Get.mono _ _ _
      | exact LeO.none _
      | refine LeO.ite ?_ ?_
      | refine LeO.bind ?_ (fun _ => ?_)
theorem cornucopiaref20_Parse.mono : ∀ a0 k, LeO (cornucopiaref20_Parse.f k a0) (cornucopiaref20_Parse.f (k + 1) a0) := by
  intro a0 k
  obtain ⟨ih0, ih1, ih2⟩ := cornucopiaref20_Parse.mono_l k
  unfold cornucopiaref20_Parse.f
  repeat' first
      | (with_reducible exact ih0 _ _)
      | (with_reducible exact ih1 _ _ _)
      | (with_reducible exact ih2 _ _ _ _ _ _ _ _ _ _)
      | (with_reducible exact cornucopiaref17_Parse.mono _ _)
      | (with_reducible exact cornucopiaref1_Get.mono _ _ _)
      | (with_reducible exact LeO.refl _)
      | (with_reducible exact LeO.none _)
      | (with_reducible refine LeO.ite ?_ ?_)
      | (with_reducible refine LeO.bind ?_ (fun _ => ?_))
      | exact ih0 _ _
      | exact ih1 _ _ _
      | exact ih2 _ _ _ _ _ _ _ _ _ _
      | exact cornucopiaref17_Parse.mono _ _
      | exact cornucopiaref1_Get.mono _ _ _
      | exact LeO.none _
      | refine LeO.ite ?_ ?_
      | refine LeO.bind ?_ (fun _ => ?_)
def cornucopiaref20_Parse.T6 : Bool × List (List Nat × List Nat) := (true, [([], []), ([0], [0]), ([1], [1]), ([2], [2]), ([], []), ([4], [4]), ([5], [5]), ([3, 6], [3, 6]), ([], []), ([8, 7, 0, 1, 2, 3, 4, 5, 6, 7, 8], [7, 8])])
def cornucopiaref20_Parse.B6 : List Nat := [0, 1, 3, 7, 0, 16, 48, 127, 0, 511]
theorem cornucopiaref20_Parse.tab6 : rtab .any (opsOf Tryd.f8 6) = cornucopiaref20_Parse.T6 := by kernel_rfl
theorem cornucopiaref20_Parse.bits6 : waitsOk cornucopiaref20_Parse.T6.2 cornucopiaref20_Parse.B6 = true := by kernel_rfl
set_option maxHeartbeats 8000000 in
set_option maxRecDepth 100000 in
theorem cornucopiaref20_Parse.calls (k : Nat) (a0 : ByteArray) (r1 : ByteArray) (r2 : Int) (r3 : ByteArray) (r4 : Int) (r5 : Int) (r6 : Int) (r7 : Int) (r8 : Int) (r9 : Int) (w : World) (h : cornucopiaref20_Parse.f k a0 = some (r1, r2, r3, r4, r5, r6, r7, r8, r9)) :
    Calls Tryd.prog 8 #[.string a0] w fun e w' => e = .returned (.tuple #[.agg #[.string r1, .int .i64 r2, .string r3, .int .u8 r4, .int .u8 r5, .int .u8 r6, .int .u8 r7, .int .u64 r8], .int .i64 r9]) ∧ Below w.heap.size w w' := by
  have hu33 := Tryd.underlying33
  have hu26 := Tryd.underlying26
  have HB := Aside0.mk (Below.refl w.heap.size w)
  have H : (if a0.toList = ([] : List UInt8) then (cornucopiaref20_Parse.j0 k a0 true) else (if 0 < (a0.size : Int) then (cornucopiaref20_Parse.j0 k a0 ((bt a0 0) != 111)) else (none))) = some (r1, r2, r3, r4, r5, r6, r7, r8, r9) := h
  clear h
  have HC2 := Aside0.mk H
  clear H
  go_enter Tryd.func8, Tryd.ntmps8
  go_upto_region 1 with (first | ((with_reducible refine gate_dst (N := 2) rfl ?_); (try (refine gate_guard (by rfl) ?_; dsimp only)); refine box_event ?hg (N := 2) ?hd (cs := #[.string (⟨#[]⟩ : ByteArray), .int .i64 0, .string (⟨#[]⟩ : ByteArray), .int .u8 0, .int .u8 0, .int .u8 0, .int .u8 0, .int .u64 0]) (t := 33) ?hr ?_; (case hd => rfl); (case hg => rfl); (case hr => first | (go_simp; done) | (go_simp; rfl)); intro gb226 hg w3 hbox hb; have n0_ := Aside0.mk (below_step (by repeat (first | (with_reducible first | exact HB.out | apply below_alloc | apply pw_below_drewN | apply below_drew1) | exact HB.out)) hb); have n1_ := Aside0.mk (hbox); have n2_ := Aside0.mk ((by rw [hg]; exact (below_size (by repeat (first | (with_reducible first | exact HB.out | apply below_alloc | apply pw_below_drewN | apply below_drew1) | exact HB.out))) : w.heap.size ≤ gb226)); have n3_ := Aside0.mk ((by rw [hg]; exact (below_size (by repeat (first | (with_reducible first | exact HB.out | apply below_alloc | apply pw_below_drewN | apply below_drew1) | exact HB.out))) : w.heap.size ≤ gb226)); clear HB; have HB := n0_; have BK226 := n1_; have GW226 := n2_; have GE226 := n3_; clear n0_ n1_ n2_ n3_; clear hb hbox hg))
  (try simp only [Act.put, List.setIfInBounds_toArray, List.set_cons_zero, List.set_cons_succ])
  go_cut [15] (fun v15 wc => ∃ (kq : Nat) (x15_1 : Bool), v15 = .bool x15_1 ∧ Aside0 (cornucopiaref20_Parse.j0 kq a0 x15_1 = some (r1, r2, r3, r4, r5, r6, r7, r8, r9)) ∧ Aside0 (kq ≤ k) ∧ Aside0 (wc.heap[gb226]? = some (.cells #[.string (⟨#[]⟩ : ByteArray), .int .i64 0, .string (⟨#[]⟩ : ByteArray), .int .u8 0, .int .u8 0, .int .u8 0, .int .u8 0, .int .u64 0] 33 (0, 0))) ∧ Aside0 (Below w.heap.size w wc))
  case first =>
    have H := HC2.out
    clear HC2
    by_cases c4 : a0.toList = ([] : List UInt8)
    · rw [if_pos c4] at H
      have c4b0 : (a0.toList == ([] : List UInt8)) = true := beq_iff_eq.mpr c4
      have c4b1 : (a0.toList != ([] : List UInt8)) = false := bne_eq_false_iff_eq.mpr c4
      clear c4
      (first | rw [c4b0] | (simp only [i64_w, i32_w]; rw [c4b0]) | skip)
      have H' := Aside0.mk H
      clear H
      go_wp2
      go_meet
      case rel => exact ⟨_, (true), (by first | rfl | (simp; done) | (simp [*]; done)), H', ⟨by first | omega | exact Nat.le_refl _⟩, ⟨by (with_reducible repeat (first | refine blk_drewN ?_ _ | refine blk_drew ?_ | refine blk_alloc ?_ _)); exact BK226.out⟩, ⟨by repeat (first | (with_reducible first | exact HB.out | apply below_alloc | apply pw_below_drewN | apply below_drew1 | refine below_set ?_ GE226.out) | exact HB.out)⟩⟩
    · rw [if_neg c4] at H
      have c4b0 : (a0.toList == ([] : List UInt8)) = false := beq_eq_false_iff_ne.mpr c4
      have c4b1 : (a0.toList != ([] : List UInt8)) = true := bne_iff_ne.mpr c4
      (first | rw [c4b0] | (simp only [i64_w, i32_w]; rw [c4b0]) | skip)
      by_cases c5 : 0 < (a0.size : Int)
      · rw [if_pos c5] at H
        have c5b0 : decide (0 < (a0.size : Int)) = true := decide_eq_true c5
        have c5b1 : decide (0 < a0.size) = true := decide_eq_true (by omega)
        clear c5
        have H' := Aside0.mk H
        clear H
        have p6 : 0 ≤ (0 : Int) := (by omega)
        have q6 : 0 < a0.size := (by have : (0 : Int) < (a0.size : Int) := of_decide_eq_true (by first | (with_reducible assumption) | assumption); omega)
        have hx6 : ∀ h : 0 < a0.size, ((a0[0]'h).toNat : Int) = bt a0 0 := bt_at a0 0
        clear p6
        have qi6 : (0 < (a0.size : Int)) = True := eq_true (of_decide_eq_true (by first | (with_reducible assumption) | assumption))
        replace q6 := eq_true q6
        go_wp2
        go_meet
        case rel => exact ⟨_, (((bt a0 0) != 111)), (by first | rfl | (simp; done) | (simp [*]; done)), H', ⟨by first | omega | exact Nat.le_refl _⟩, ⟨by (with_reducible repeat (first | refine blk_drewN ?_ _ | refine blk_drew ?_ | refine blk_alloc ?_ _)); exact BK226.out⟩, ⟨by repeat (first | (with_reducible first | exact HB.out | apply below_alloc | apply pw_below_drewN | apply below_drew1 | refine below_set ?_ GE226.out) | exact HB.out)⟩⟩
      · rw [if_neg c5] at H
        exact absurd H (by simp)
  case rest =>
    clear HC2
    try clear p2
    try clear c4
    try clear c4b0
    try clear c4b1
    try clear c5
    try clear c5b0
    try clear c5b1
    try clear p6
    try clear q6
    try clear hx6
    try clear qi6
    try clear p6
    try clear q6
    obtain ⟨kq, x15_1, rfl, HA, HJ1, BK226, HB⟩ := hcut
    cases kq with
    | zero => exact absurd HA.out (by simp [cornucopiaref20_Parse.j0])
    | succ kj1 =>
      have H := HA.out
      clear HA
      simp only [cornucopiaref20_Parse.j0] at H
      by_cases c7 : x15_1 = true
      · subst c7
        have H1 : (some ((⟨#[]⟩ : ByteArray), 0, (⟨#[]⟩ : ByteArray), 0, 0, 0, 0, 0, 4)) = some (r1, r2, r3, r4, r5, r6, r7, r8, r9) := by rw [if_pos rfl] at H; exact H
        clear H
        have H := H1
        clear H1
        simp only [Option.some.injEq, Prod.mk.injEq] at H
        obtain ⟨rfl, rfl, rfl, rfl, rfl, rfl, rfl, rfl, rfl⟩ := H
        have hcz8_0 : wc.cell? ⟨gb226, 0, none⟩ = some (.string (⟨#[]⟩ : ByteArray)) := (blk_cell BK226.out 0).trans rfl
        have hcz8_1 : wc.cell? ⟨gb226, 1, none⟩ = some (.int .i64 0) := (blk_cell BK226.out 1).trans rfl
        have hcz8_2 : wc.cell? ⟨gb226, 2, none⟩ = some (.string (⟨#[]⟩ : ByteArray)) := (blk_cell BK226.out 2).trans rfl
        have hcz8_3 : wc.cell? ⟨gb226, 3, none⟩ = some (.int .u8 0) := (blk_cell BK226.out 3).trans rfl
        have hcz8_4 : wc.cell? ⟨gb226, 4, none⟩ = some (.int .u8 0) := (blk_cell BK226.out 4).trans rfl
        have hcz8_5 : wc.cell? ⟨gb226, 5, none⟩ = some (.int .u8 0) := (blk_cell BK226.out 5).trans rfl
        have hcz8_6 : wc.cell? ⟨gb226, 6, none⟩ = some (.int .u8 0) := (blk_cell BK226.out 6).trans rfl
        have hcz8_7 : wc.cell? ⟨gb226, 7, none⟩ = some (.int .u64 0) := (blk_cell BK226.out 7).trans rfl
        have hfz8_0 := blk_frozen BK226.out 0
        have hfz8_1 := blk_frozen BK226.out 1
        have hfz8_2 := blk_frozen BK226.out 2
        have hfz8_3 := blk_frozen BK226.out 3
        have hfz8_4 := blk_frozen BK226.out 4
        have hfz8_5 := blk_frozen BK226.out 5
        have hfz8_6 := blk_frozen BK226.out 6
        have hfz8_7 := blk_frozen BK226.out 7
        go_wp2
        refine bodyPost_ret (results_ct rfl _ _ gb226 33 #[.string (⟨#[]⟩ : ByteArray), .int .i64 0, .string (⟨#[]⟩ : ByteArray), .int .u8 0, .int .u8 0, .int .u8 0, .int .u8 0, .int .u64 0] (0, 0) _ rfl (by (with_reducible repeat (first | refine blk_drewN ?_ _ | refine blk_drew ?_ | refine blk_alloc ?_ _)); refine blk_put (cs := #[.string (⟨#[]⟩ : ByteArray), .int .i64 0, .string (⟨#[]⟩ : ByteArray), .int .u8 0, .int .u8 0, .int .u8 0, .int .u8 0, .int .u64 0]) ?_ 7 _ rfl; (with_reducible repeat (first | refine blk_drewN ?_ _ | refine blk_drew ?_ | refine blk_alloc ?_ _)); refine blk_put (cs := #[.string (⟨#[]⟩ : ByteArray), .int .i64 0, .string (⟨#[]⟩ : ByteArray), .int .u8 0, .int .u8 0, .int .u8 0, .int .u8 0, .int .u64 0]) ?_ 6 _ rfl; (with_reducible repeat (first | refine blk_drewN ?_ _ | refine blk_drew ?_ | refine blk_alloc ?_ _)); refine blk_put (cs := #[.string (⟨#[]⟩ : ByteArray), .int .i64 0, .string (⟨#[]⟩ : ByteArray), .int .u8 0, .int .u8 0, .int .u8 0, .int .u8 0, .int .u64 0]) ?_ 5 _ rfl; (with_reducible repeat (first | refine blk_drewN ?_ _ | refine blk_drew ?_ | refine blk_alloc ?_ _)); refine blk_put (cs := #[.string (⟨#[]⟩ : ByteArray), .int .i64 0, .string (⟨#[]⟩ : ByteArray), .int .u8 0, .int .u8 0, .int .u8 0, .int .u8 0, .int .u64 0]) ?_ 4 _ rfl; (with_reducible repeat (first | refine blk_drewN ?_ _ | refine blk_drew ?_ | refine blk_alloc ?_ _)); refine blk_put (cs := #[.string (⟨#[]⟩ : ByteArray), .int .i64 0, .string (⟨#[]⟩ : ByteArray), .int .u8 0, .int .u8 0, .int .u8 0, .int .u8 0, .int .u64 0]) ?_ 3 _ rfl; (with_reducible repeat (first | refine blk_drewN ?_ _ | refine blk_drew ?_ | refine blk_alloc ?_ _)); refine blk_put (cs := #[.string (⟨#[]⟩ : ByteArray), .int .i64 0, .string (⟨#[]⟩ : ByteArray), .int .u8 0, .int .u8 0, .int .u8 0, .int .u8 0, .int .u64 0]) ?_ 2 _ rfl; (with_reducible repeat (first | refine blk_drewN ?_ _ | refine blk_drew ?_ | refine blk_alloc ?_ _)); refine blk_put (cs := #[.string (⟨#[]⟩ : ByteArray), .int .i64 0, .string (⟨#[]⟩ : ByteArray), .int .u8 0, .int .u8 0, .int .u8 0, .int .u8 0, .int .u64 0]) ?_ 1 _ rfl; (with_reducible repeat (first | refine blk_drewN ?_ _ | refine blk_drew ?_ | refine blk_alloc ?_ _)); refine blk_put (cs := #[.string (⟨#[]⟩ : ByteArray), .int .i64 0, .string (⟨#[]⟩ : ByteArray), .int .u8 0, .int .u8 0, .int .u8 0, .int .u8 0, .int .u64 0]) ?_ 0 _ rfl; (with_reducible repeat (first | refine blk_drewN ?_ _ | refine blk_drew ?_ | refine blk_alloc ?_ _)); exact BK226.out) Tryd.underlying33 rfl (by kernel_rfl)) rfl ?_
        exact ⟨by first | rfl | (simp [errW_none, errW_some] <;> rfl) | (simp [*, errW_none, errW_some] <;> rfl), by repeat (first | (with_reducible first | exact HB.out | apply below_alloc | apply pw_below_drewN | apply below_drew1 | refine below_set ?_ GE226.out) | exact HB.out)⟩
      · replace c7 := Bool.eq_false_iff.mpr c7
        subst c7
        have H1 : (if 1 ≤ (a0.size : Int) then ((cornucopiaref1_Get.f kj1 (a0.extract 1 a0.size) (([1] : List Int))).bind fun bt230 => (if bt230.2.2 = 0 then (if bt230.2.1.toList = ([] : List UInt8) then (cornucopiaref20_Parse.j1 kj1 bt230.1 bt230.2.1 true) else (if 0 < (bt230.2.1.size : Int) then (cornucopiaref20_Parse.j1 kj1 bt230.1 bt230.2.1 (decide ((bt bt230.2.1 0) > 3))) else (none))) else (cornucopiaref20_Parse.j1 kj1 bt230.1 bt230.2.1 true))) else (none)) = some (r1, r2, r3, r4, r5, r6, r7, r8, r9) := by rw [if_neg (show ¬ (false = true) by decide)] at H; exact H
        clear H
        have H := H1
        clear H1
        by_cases c9 : 1 ≤ (a0.size : Int)
        · rw [if_pos c9] at H
          have c9b0 := eq_true c9
          have c9b1 : decide (1 ≤ (a0.size : Int)) = true := decide_eq_true c9
          clear c9
          obtain ⟨y227, hy227⟩ : ∃ y_ : List Int, y_ = (([1] : List Int)) := ⟨_, rfl⟩
          replace H : ((cornucopiaref1_Get.f kj1 (a0.extract 1 a0.size) y227).bind fun bt230 => (if bt230.2.2 = 0 then (if bt230.2.1.toList = ([] : List UInt8) then (cornucopiaref20_Parse.j1 kj1 bt230.1 bt230.2.1 true) else (if 0 < (bt230.2.1.size : Int) then (cornucopiaref20_Parse.j1 kj1 bt230.1 bt230.2.1 (decide ((bt bt230.2.1 0) > 3))) else (none))) else (cornucopiaref20_Parse.j1 kj1 bt230.1 bt230.2.1 true))) = some (r1, r2, r3, r4, r5, r6, r7, r8, r9) := by first | (rw [hy227]; with_reducible exact H) | (have H2_ := (Option.bind_some _ _).symm.trans H; rw [hy227]; with_reducible exact H2_) | (have H2_ := (Option.bind_some _ _).symm.trans H; with_reducible exact H2_) | with_reducible exact H | (rw [hy227]; exact H) | exact H
          have Ny227 := Aside0.mk hy227
          clear hy227
          replace H := Option.bind_eq_some_iff.mp H
          obtain ⟨⟨t230, t231, t232⟩, A100, H⟩ := H
          replace H : (if t232 = 0 then (if t231.toList = ([] : List UInt8) then (cornucopiaref20_Parse.j1 kj1 t230 t231 true) else (if 0 < (t231.size : Int) then (cornucopiaref20_Parse.j1 kj1 t230 t231 (decide ((bt t231 0) > 3))) else (none))) else (cornucopiaref20_Parse.j1 kj1 t230 t231 true)) = some (r1, r2, r3, r4, r5, r6, r7, r8, r9) := H
          have A10 := Aside0.mk A100
          clear A100
          have HC11 := Aside0.mk H
          clear H
          go_upto_region 4 with (first | ((with_reducible refine gate_dst (N := 20) rfl ?_); (try (refine gate_guard (by rfl) ?_; dsimp only)); refine Kd.R_lit (Kd.int .i64) _ 3 ?hg (N := 20) ?hd (xs := ([1] : List Int)) (inner := [.int .i64 1]) (ok := fun _ => True) (okp := fun _ => True) ?hr ?hp (fun _ hk => hk) trivial (Below.refl _ _) (Nat.le_refl _) (by simp) ?_; (case hd => rfl); (case hg => rfl); (case hr => first | (go_simp; done) | (go_simp; rfl)); (case hp => exact (Reps.one (show Kd.M (Kd.int .i64) _ _ _ 1 [.int .i64 1] from rfl) (Reps.none _ _))); intro v228 w12 ho13 hb hg_ hnew_; clear hg_ hnew_; (first | rw [← Ny227.out] at ho13 | (simp only [Int.reduceToNat] at ho13; rw [← Ny227.out] at ho13)); have n0_ := Aside0.mk (Kd.R_lower ho13 (below_size (by repeat (first | (with_reducible first | exact HB.out | apply below_alloc | apply pw_below_drewN | apply below_drew1 | refine below_set ?_ GE226.out) | exact HB.out)))); have n1_ := Aside0.mk (blk_below (g := gb226) (o := .cells #[.string (⟨#[]⟩ : ByteArray), .int .i64 0, .string (⟨#[]⟩ : ByteArray), .int .u8 0, .int .u8 0, .int .u8 0, .int .u8 0, .int .u64 0] 33 (0, 0)) (by (with_reducible repeat (first | refine blk_drewN ?_ _ | refine blk_drew ?_ | refine blk_alloc ?_ _)); exact BK226.out) hb); have n2_ := Aside0.mk (below_step (by repeat (first | (with_reducible first | exact HB.out | apply below_alloc | apply pw_below_drewN | apply below_drew1 | refine below_set ?_ GE226.out) | exact HB.out)) hb); clear BK226; clear HB; have HO229 := n0_; have BK226 := n1_; have HB := n2_; clear n0_ n1_ n2_; clear hb ho13; obtain ⟨Ao14, co14, eo14⟩ := Kd.R_slice HO229.out; subst eo14) | ((with_reducible refine gate_callee (f := 24) rfl ?_); refine goesL_ (some 21) rfl rfl Tryd.func24 (by kernel_rfl) rfl #[.string (a0.extract 1 a0.size), .slice Ao14 y227.length co14] rfl (by (try simp only [List.map_toArray, List.map_cons, List.map_nil]); first | done | rfl | (simp only [List.length_drop, List.length_take]; rfl)) ?_; (with_reducible refine (cornucopiaref1_Get.calls kj1 (a0.extract 1 a0.size) _ _ y227 t230 t231 t232 _ ?side1 ?side2 A10.out).mono ?_); (case side1 => repeat (first | exact (Kd.R_reads' HO229.out).2.2 | (with_reducible refine Kd.C_alloc ?_ _) | (with_reducible refine Kd.C_drewN ?_ _) | (with_reducible refine Kd.C_drew ?_))); (case side2 => exact (Kd.R_reads' HO229.out).2.1); rintro e w15 ⟨v233, rfl, ho0, hb⟩; refine ⟨_, rfl, ?_⟩; have n0_ := Aside0.mk (Kd.R_below (by (with_reducible repeat (first | apply Kd.R_alloc | apply Kd.R_drewN | apply Kd.R_drew)); exact HO229.out) hb); have n1_ := Aside0.mk (Kd.R_lower ho0 (below_size (by repeat (first | (with_reducible first | exact HB.out | apply below_alloc | apply pw_below_drewN | apply below_drew1 | refine below_set ?_ GE226.out) | exact HB.out)))); have n2_ := Aside0.mk (blk_below (g := gb226) (o := .cells #[.string (⟨#[]⟩ : ByteArray), .int .i64 0, .string (⟨#[]⟩ : ByteArray), .int .u8 0, .int .u8 0, .int .u8 0, .int .u8 0, .int .u64 0] 33 (0, 0)) (by (with_reducible repeat (first | refine blk_drewN ?_ _ | refine blk_drew ?_ | refine blk_alloc ?_ _)); exact BK226.out) hb); have n3_ := Aside0.mk (below_step (by repeat (first | (with_reducible first | exact HB.out | apply below_alloc | apply pw_below_drewN | apply below_drew1 | refine below_set ?_ GE226.out) | exact HB.out)) hb); clear HO229; clear BK226; clear HB; have HO229 := n0_; have HO234 := n1_; have BK226 := n2_; have HB := n3_; clear n0_ n1_ n2_ n3_; (try clear hb); (try clear hb2); (try clear hk); (try clear hi); (try clear ho0)))
          (try simp only [Act.put, List.setIfInBounds_toArray, List.set_cons_zero, List.set_cons_succ])
          go_cut [35] (fun v35 wc => ∃ (kq : Nat) (x35_10 : Bool), v35 = .bool x35_10 ∧ Aside0 (cornucopiaref20_Parse.j1 kq t230 t231 x35_10 = some (r1, r2, r3, r4, r5, r6, r7, r8, r9)) ∧ Aside0 (kq ≤ kj1) ∧ Aside0 (Kd.R k57 57 wc w.heap.size (fun _ => True) v233 t230) ∧ Aside0 (wc.heap[gb226]? = some (.cells #[.string (⟨#[]⟩ : ByteArray), .int .i64 0, .string (⟨#[]⟩ : ByteArray), .int .u8 0, .int .u8 0, .int .u8 0, .int .u8 0, .int .u64 0] 33 (0, 0))) ∧ Aside0 (Below w.heap.size w wc))
          case first =>
            have H := HC11.out
            clear HC11
            by_cases c16 : t232 = 0
            · rw [if_pos c16] at H
              have c16b0 : (t232 == 0) = true := beq_iff_eq.mpr c16
              have c16b1 : (t232 != 0) = false := bne_eq_false_iff_eq.mpr c16
              clear c16
              (first | rw [c16b0] | (simp only [i64_w, i32_w]; rw [c16b0]) | skip)
              by_cases c17 : t231.toList = ([] : List UInt8)
              · rw [if_pos c17] at H
                have c17b0 : (t231.toList == ([] : List UInt8)) = true := beq_iff_eq.mpr c17
                have c17b1 : (t231.toList != ([] : List UInt8)) = false := bne_eq_false_iff_eq.mpr c17
                clear c17
                have H' := Aside0.mk H
                clear H
                go_wp2
                go_meet
                case rel => exact ⟨_, (true), (by first | rfl | (simp; done) | (simp [*]; done)), H', ⟨by have := HJ1.out; first | omega | exact Nat.le_refl _⟩, ⟨by (with_reducible repeat (first | apply Kd.R_alloc | apply Kd.R_drewN | apply Kd.R_drew)); exact HO234.out⟩, ⟨by (with_reducible repeat (first | refine blk_drewN ?_ _ | refine blk_drew ?_ | refine blk_alloc ?_ _)); exact BK226.out⟩, ⟨by repeat (first | (with_reducible first | exact HB.out | apply below_alloc | apply pw_below_drewN | apply below_drew1 | refine below_set ?_ GE226.out) | exact HB.out)⟩⟩
              · rw [if_neg c17] at H
                have c17b0 : (t231.toList == ([] : List UInt8)) = false := beq_eq_false_iff_ne.mpr c17
                have c17b1 : (t231.toList != ([] : List UInt8)) = true := bne_iff_ne.mpr c17
                by_cases c18 : 0 < (t231.size : Int)
                · rw [if_pos c18] at H
                  have c18b0 : decide (0 < (t231.size : Int)) = true := decide_eq_true c18
                  have c18b1 : decide (0 < t231.size) = true := decide_eq_true (by omega)
                  clear c18
                  have H' := Aside0.mk H
                  clear H
                  have p19 : 0 ≤ (0 : Int) := (by omega)
                  have q19 : 0 < t231.size := (by have : (0 : Int) < (t231.size : Int) := of_decide_eq_true (by first | (with_reducible assumption) | assumption); omega)
                  have hx19 : ∀ h : 0 < t231.size, ((t231[0]'h).toNat : Int) = bt t231 0 := bt_at t231 0
                  clear p19
                  have qi19 : (0 < (t231.size : Int)) = True := eq_true (of_decide_eq_true (by first | (with_reducible assumption) | assumption))
                  replace q19 := eq_true q19
                  go_wp2
                  go_meet
                  case rel => exact ⟨_, (decide ((bt t231 0) > 3)), (by first | rfl | (simp; done) | (simp [*]; done)), H', ⟨by have := HJ1.out; first | omega | exact Nat.le_refl _⟩, ⟨by (with_reducible repeat (first | apply Kd.R_alloc | apply Kd.R_drewN | apply Kd.R_drew)); exact HO234.out⟩, ⟨by (with_reducible repeat (first | refine blk_drewN ?_ _ | refine blk_drew ?_ | refine blk_alloc ?_ _)); exact BK226.out⟩, ⟨by repeat (first | (with_reducible first | exact HB.out | apply below_alloc | apply pw_below_drewN | apply below_drew1 | refine below_set ?_ GE226.out) | exact HB.out)⟩⟩
                · rw [if_neg c18] at H
                  exact absurd H (by simp)
            · rw [if_neg c16] at H
              have c16b0 : (t232 == 0) = false := beq_eq_false_iff_ne.mpr c16
              have c16b1 : (t232 != 0) = true := bne_iff_ne.mpr c16
              (first | rw [c16b0] | (simp only [i64_w, i32_w]; rw [c16b0]) | skip)
              have H' := Aside0.mk H
              clear H
              go_wp2
              go_meet
              case rel => exact ⟨_, (true), (by first | rfl | (simp; done) | (simp [*]; done)), H', ⟨by have := HJ1.out; first | omega | exact Nat.le_refl _⟩, ⟨by (with_reducible repeat (first | apply Kd.R_alloc | apply Kd.R_drewN | apply Kd.R_drew)); exact HO234.out⟩, ⟨by (with_reducible repeat (first | refine blk_drewN ?_ _ | refine blk_drew ?_ | refine blk_alloc ?_ _)); exact BK226.out⟩, ⟨by repeat (first | (with_reducible first | exact HB.out | apply below_alloc | apply pw_below_drewN | apply below_drew1 | refine below_set ?_ GE226.out) | exact HB.out)⟩⟩
          case rest =>
            clear HC11
            try clear c1
            try clear p1
            try clear q1
            try clear hx1
            try clear qi1
            try clear c2
            try clear p2
            try clear c4
            try clear c4b0
            try clear c4b1
            try clear c5
            try clear c5b0
            try clear c5b1
            try clear p6
            try clear q6
            try clear hx6
            try clear qi6
            try clear c7
            try clear c8
            try clear c9
            try clear c9b0
            try clear c9b1
            try clear c16
            try clear c16b0
            try clear c16b1
            try clear c17
            try clear c17b0
            try clear c17b1
            try clear c18
            try clear c18b0
            try clear c18b1
            try clear p19
            try clear q19
            try clear hx19
            try clear qi19
            try clear hcz8_0
            try clear hcz8_1
            try clear hcz8_2
            try clear hcz8_3
            try clear hcz8_4
            try clear hcz8_5
            try clear hcz8_6
            try clear hcz8_7
            try clear hfz8_0
            try clear hfz8_1
            try clear hfz8_2
            try clear hfz8_3
            try clear hfz8_4
            try clear hfz8_5
            try clear hfz8_6
            try clear hfz8_7
            try clear p19
            try clear p2
            try clear p6
            try clear q19
            try clear q6
            obtain ⟨kq, x35_10, rfl, HA, HJ10, HO_4, BK226, HB⟩ := hcut
            cases kq with
            | zero => exact absurd HA.out (by simp [cornucopiaref20_Parse.j1])
            | succ kj10 =>
              have H := HA.out
              clear HA
              simp only [cornucopiaref20_Parse.j1] at H
              by_cases c20 : x35_10 = true
              · subst c20
                have H1 : (some ((⟨#[]⟩ : ByteArray), 0, (⟨#[]⟩ : ByteArray), 0, 0, 0, 0, 0, 4)) = some (r1, r2, r3, r4, r5, r6, r7, r8, r9) := by rw [if_pos rfl] at H; exact H
                clear H
                have H := H1
                clear H1
                simp only [Option.some.injEq, Prod.mk.injEq] at H
                obtain ⟨rfl, rfl, rfl, rfl, rfl, rfl, rfl, rfl, rfl⟩ := H
                have hcz21_0 : wc.cell? ⟨gb226, 0, none⟩ = some (.string (⟨#[]⟩ : ByteArray)) := (blk_cell BK226.out 0).trans rfl
                have hcz21_1 : wc.cell? ⟨gb226, 1, none⟩ = some (.int .i64 0) := (blk_cell BK226.out 1).trans rfl
                have hcz21_2 : wc.cell? ⟨gb226, 2, none⟩ = some (.string (⟨#[]⟩ : ByteArray)) := (blk_cell BK226.out 2).trans rfl
                have hcz21_3 : wc.cell? ⟨gb226, 3, none⟩ = some (.int .u8 0) := (blk_cell BK226.out 3).trans rfl
                have hcz21_4 : wc.cell? ⟨gb226, 4, none⟩ = some (.int .u8 0) := (blk_cell BK226.out 4).trans rfl
                have hcz21_5 : wc.cell? ⟨gb226, 5, none⟩ = some (.int .u8 0) := (blk_cell BK226.out 5).trans rfl
                have hcz21_6 : wc.cell? ⟨gb226, 6, none⟩ = some (.int .u8 0) := (blk_cell BK226.out 6).trans rfl
                have hcz21_7 : wc.cell? ⟨gb226, 7, none⟩ = some (.int .u64 0) := (blk_cell BK226.out 7).trans rfl
                have hfz21_0 := blk_frozen BK226.out 0
                have hfz21_1 := blk_frozen BK226.out 1
                have hfz21_2 := blk_frozen BK226.out 2
                have hfz21_3 := blk_frozen BK226.out 3
                have hfz21_4 := blk_frozen BK226.out 4
                have hfz21_5 := blk_frozen BK226.out 5
                have hfz21_6 := blk_frozen BK226.out 6
                have hfz21_7 := blk_frozen BK226.out 7
                go_wp2
                refine bodyPost_ret (results_ct rfl _ _ gb226 33 #[.string (⟨#[]⟩ : ByteArray), .int .i64 0, .string (⟨#[]⟩ : ByteArray), .int .u8 0, .int .u8 0, .int .u8 0, .int .u8 0, .int .u64 0] (0, 0) _ rfl (by (with_reducible repeat (first | refine blk_drewN ?_ _ | refine blk_drew ?_ | refine blk_alloc ?_ _)); refine blk_put (cs := #[.string (⟨#[]⟩ : ByteArray), .int .i64 0, .string (⟨#[]⟩ : ByteArray), .int .u8 0, .int .u8 0, .int .u8 0, .int .u8 0, .int .u64 0]) ?_ 7 _ rfl; (with_reducible repeat (first | refine blk_drewN ?_ _ | refine blk_drew ?_ | refine blk_alloc ?_ _)); refine blk_put (cs := #[.string (⟨#[]⟩ : ByteArray), .int .i64 0, .string (⟨#[]⟩ : ByteArray), .int .u8 0, .int .u8 0, .int .u8 0, .int .u8 0, .int .u64 0]) ?_ 6 _ rfl; (with_reducible repeat (first | refine blk_drewN ?_ _ | refine blk_drew ?_ | refine blk_alloc ?_ _)); refine blk_put (cs := #[.string (⟨#[]⟩ : ByteArray), .int .i64 0, .string (⟨#[]⟩ : ByteArray), .int .u8 0, .int .u8 0, .int .u8 0, .int .u8 0, .int .u64 0]) ?_ 5 _ rfl; (with_reducible repeat (first | refine blk_drewN ?_ _ | refine blk_drew ?_ | refine blk_alloc ?_ _)); refine blk_put (cs := #[.string (⟨#[]⟩ : ByteArray), .int .i64 0, .string (⟨#[]⟩ : ByteArray), .int .u8 0, .int .u8 0, .int .u8 0, .int .u8 0, .int .u64 0]) ?_ 4 _ rfl; (with_reducible repeat (first | refine blk_drewN ?_ _ | refine blk_drew ?_ | refine blk_alloc ?_ _)); refine blk_put (cs := #[.string (⟨#[]⟩ : ByteArray), .int .i64 0, .string (⟨#[]⟩ : ByteArray), .int .u8 0, .int .u8 0, .int .u8 0, .int .u8 0, .int .u64 0]) ?_ 3 _ rfl; (with_reducible repeat (first | refine blk_drewN ?_ _ | refine blk_drew ?_ | refine blk_alloc ?_ _)); refine blk_put (cs := #[.string (⟨#[]⟩ : ByteArray), .int .i64 0, .string (⟨#[]⟩ : ByteArray), .int .u8 0, .int .u8 0, .int .u8 0, .int .u8 0, .int .u64 0]) ?_ 2 _ rfl; (with_reducible repeat (first | refine blk_drewN ?_ _ | refine blk_drew ?_ | refine blk_alloc ?_ _)); refine blk_put (cs := #[.string (⟨#[]⟩ : ByteArray), .int .i64 0, .string (⟨#[]⟩ : ByteArray), .int .u8 0, .int .u8 0, .int .u8 0, .int .u8 0, .int .u64 0]) ?_ 1 _ rfl; (with_reducible repeat (first | refine blk_drewN ?_ _ | refine blk_drew ?_ | refine blk_alloc ?_ _)); refine blk_put (cs := #[.string (⟨#[]⟩ : ByteArray), .int .i64 0, .string (⟨#[]⟩ : ByteArray), .int .u8 0, .int .u8 0, .int .u8 0, .int .u8 0, .int .u64 0]) ?_ 0 _ rfl; (with_reducible repeat (first | refine blk_drewN ?_ _ | refine blk_drew ?_ | refine blk_alloc ?_ _)); exact BK226.out) Tryd.underlying33 rfl (by kernel_rfl)) rfl ?_
                exact ⟨by first | rfl | (simp [errW_none, errW_some] <;> rfl) | (simp [*, errW_none, errW_some] <;> rfl), by repeat (first | (with_reducible first | exact HB.out | apply below_alloc | apply pw_below_drewN | apply below_drew1 | refine below_set ?_ GE226.out) | exact HB.out)⟩
              · replace c20 := Bool.eq_false_iff.mpr c20
                subst c20
                have H1 : (if 0 < (t230.length : Int) then (if 0 < (t231.size : Int) then ((cornucopiaref20_ValidName.f ((rd_T57 t230 0).f1)).bind fun t237 => (if t237 = true then (if (wrap64 (bt t231 0)) < 3 then (cornucopiaref20_Parse.j2 kj10 t231 (decide ((t231.size : Int) > 1)) ((rd_T57 t230 0).f1) (wrap64 (bt t231 0)) (⟨#[]⟩ : ByteArray) 0 0 0 0 0) else (cornucopiaref20_Parse.j2 kj10 t231 false ((rd_T57 t230 0).f1) (wrap64 (bt t231 0)) (⟨#[]⟩ : ByteArray) 0 0 0 0 0)) else (cornucopiaref20_Parse.j2 kj10 t231 true ((rd_T57 t230 0).f1) (wrap64 (bt t231 0)) (⟨#[]⟩ : ByteArray) 0 0 0 0 0))) else (none)) else (none)) = some (r1, r2, r3, r4, r5, r6, r7, r8, r9) := by rw [if_neg (show ¬ (false = true) by decide)] at H; exact H
                clear H
                have H := H1
                clear H1
                by_cases c22 : 0 < (t230.length : Int)
                · rw [if_pos c22] at H
                  have c22b0 : decide (0 < (t230.length : Int)) = true := decide_eq_true c22
                  have c22b1 : decide (0 < t230.length) = true := decide_eq_true (by omega)
                  clear c22
                  by_cases c23 : 0 < (t231.size : Int)
                  · rw [if_pos c23] at H
                    have c23b0 : decide (0 < (t231.size : Int)) = true := decide_eq_true c23
                    have c23b1 : decide (0 < t231.size) = true := decide_eq_true (by omega)
                    clear c23
                    have HC25 := Aside0.mk H
                    clear H
                    try go_wp2
                    have n0_ := Aside0.mk (Kd.R_drew HO_4.out)
                    have n1_ := Aside0.mk (blk_drew BK226.out)
                    have n2_ := Aside0.mk (below_drew1 HB.out)
                    clear HO_4
                    clear BK226
                    clear HB
                    have HO_4 := n0_
                    have BK226 := n1_
                    have HB := n2_
                    clear n0_ n1_ n2_
                    obtain ⟨Ao27, co27, eo27⟩ := Kd.R_slice HO_4.out
                    (first | subst eo27 | (injection eo27 with f1_ f2_ f3_; have f4_ := f1_.symm; have f5_ := f3_.symm; clear f1_ f2_ f3_; subst f4_; subst f5_))
                    have p235 : 0 ≤ (0 : Int) := (by omega)
                    have q235 : 0 < (t230.length : Int) := of_decide_eq_true (by first | (with_reducible assumption) | assumption)
                    obtain ⟨ad235, e235, hx235_0, hx235_1, hx235_2, hx235_3⟩ := at_T57 (Kd.R_reads' HO_4.out).2.2 0 p235 q235
                    cases e235
                    have qi235 : (0 < t230.length) = True := eq_true (by omega)
                    (try rw [show ((0 : Int)).toNat = 0 from rfl] at hx235_0)
                    (try rw [show 0 * 4 = 0 from rfl] at hx235_0)
                    (try rw [Addr.add_zero'] at hx235_0)
                    (try rw [show ((0 : Int)).toNat = 0 from rfl] at hx235_1)
                    (try rw [show 0 * 4 = 0 from rfl] at hx235_1)
                    (try rw [Addr.add_zero'] at hx235_1)
                    (try rw [show ((0 : Int)).toNat = 0 from rfl] at hx235_2)
                    (try rw [show 0 * 4 = 0 from rfl] at hx235_2)
                    (try rw [Addr.add_zero'] at hx235_2)
                    (try rw [show ((0 : Int)).toNat = 0 from rfl] at hx235_3)
                    (try rw [show 0 * 4 = 0 from rfl] at hx235_3)
                    (try rw [Addr.add_zero'] at hx235_3)
                    replace p235 := eq_true p235
                    replace q235 := eq_true q235
                    have p24 : 0 ≤ (0 : Int) := (by omega)
                    have q24 : 0 < t231.size := (by have : (0 : Int) < (t231.size : Int) := of_decide_eq_true (by first | (with_reducible assumption) | assumption); omega)
                    have hx24 : ∀ h : 0 < t231.size, ((t231[0]'h).toNat : Int) = bt t231 0 := bt_at t231 0
                    clear p24
                    have qi24 : (0 < (t231.size : Int)) = True := eq_true (of_decide_eq_true (by first | (with_reducible assumption) | assumption))
                    replace q24 := eq_true q24
                    refine start_ (n := 10) (S := fun w' => w'.cell? ad235 = some (.int .i64 ((rd_T57 t230 0).f0)) ∧ w'.cell? ⟨ad235.block, ad235.off + 1, none⟩ = some (.string ((rd_T57 t230 0).f1)) ∧ w'.cell? ⟨ad235.block, ad235.off + 2, none⟩ = some (.int .u64 ((rd_T57 t230 0).f2)) ∧ w'.cell? ⟨ad235.block, ad235.off + 3, none⟩ = some (.int .i64 ((rd_T57 t230 0).f3))) (ds := []) #[false, false, false, false, false, false, false, false, false, false] (by kernel_rfl) rfl rfl ⟨hx235_0, hx235_1, hx235_2, hx235_3⟩ (fun hHeld => ?_); refine with_tabW cornucopiaref20_Parse.tab6 cornucopiaref20_Parse.bits6 (fun HT_ HW_ => ?_)
                    generalize wc.drew = w26 at HO_4 BK226 HB hx235_0 hx235_1 hx235_2 hx235_3 hHeld ⊢
                    refine pure_ (i := 0) (N := some 37) (v := ?_) (a' := ?_) #[true, false, false, false, false, false, false, false, false, false] rfl rfl (any_of HT_.out (by kernel_rfl)) (fun _ _ _ h => h) (Or.inl ⟨by rfl, ?_⟩) ?_ ?_
                    rotate_left
                    · intro w'
                      go_simp
                      with_reducible rfl
                    rotate_left
                    · simp only [Act.put, List.setIfInBounds_toArray, List.set_cons_zero, List.set_cons_succ, i64_w, i32_w]
                      rfl
                    refine pure_ (i := 1) (N := some 38) (v := ?_) (a' := ?_) #[true, true, false, false, false, false, false, false, false, false] rfl rfl (any_of HT_.out (by kernel_rfl)) (fun _ _ _ h => h) (Or.inl ⟨by rfl, ?_⟩) ?_ ?_
                    rotate_left
                    · intro w'
                      go_simp
                      with_reducible rfl
                    rotate_left
                    · simp only [Act.put, List.setIfInBounds_toArray, List.set_cons_zero, List.set_cons_succ, i64_w, i32_w]
                      rfl
                    refine pure_ (i := 2) (N := some 39) (v := ?_) (a' := ?_) #[true, true, true, false, false, false, false, false, false, false] rfl rfl (any_of HT_.out (by kernel_rfl)) (fun _ _ _ h => h) (Or.inl ⟨by rfl, ?_⟩) ?_ ?_
                    rotate_left
                    · intro w'
                      go_simp
                      with_reducible rfl
                    rotate_left
                    · simp only [Act.put, List.setIfInBounds_toArray, List.set_cons_zero, List.set_cons_succ, i64_w, i32_w]
                      rfl
                    refine pure_ (i := 4) (N := some 41) (v := ?_) (a' := ?_) #[true, true, true, false, true, false, false, false, false, false] rfl rfl (any_of HT_.out (by kernel_rfl)) (fun _ _ _ h => h) (Or.inl ⟨by rfl, ?_⟩) ?_ ?_
                    rotate_left
                    · intro w'
                      go_simp
                      with_reducible rfl
                    rotate_left
                    · simp only [Act.put, List.setIfInBounds_toArray, List.set_cons_zero, List.set_cons_succ, i64_w, i32_w]
                      rfl
                    refine take_ (i := 3) (N := some 40) (v := ?_) (a' := ?_) #[true, true, true, true, true, false, false, false, false, false] rfl rfl (take_ofW HT_.out HW_.out (by kernel_rfl)) (fun _ _ _ h => h) (Or.inl ⟨by rfl, ?_⟩) hHeld ?_ ?_
                    rotate_left
                    · rintro w' ⟨s0, s1, s2, s3⟩
                      go_simp
                      with_reducible rfl
                    rotate_left
                    · simp only [Act.put, List.setIfInBounds_toArray, List.set_cons_zero, List.set_cons_succ, i64_w, i32_w]
                      rfl
                    refine take_ (i := 5) (N := some 42) (v := ?_) (a' := ?_) #[true, true, true, true, true, true, false, false, false, false] rfl rfl (take_ofW HT_.out HW_.out (by kernel_rfl)) (fun _ _ _ h => h) (Or.inl ⟨by rfl, ?_⟩) hHeld ?_ ?_
                    rotate_left
                    · rintro w' ⟨s0, s1, s2, s3⟩
                      go_simp
                      with_reducible rfl
                    rotate_left
                    · simp only [Act.put, List.setIfInBounds_toArray, List.set_cons_zero, List.set_cons_succ, i64_w, i32_w]
                      rfl
                    refine pure_ (i := 6) (N := some 43) (v := ?_) (a' := ?_) #[true, true, true, true, true, true, true, false, false, false] rfl rfl (any_of HT_.out (by kernel_rfl)) (fun _ _ _ h => h) (Or.inl ⟨by rfl, ?_⟩) ?_ ?_
                    rotate_left
                    · intro w'
                      go_simp
                      with_reducible rfl
                    rotate_left
                    · simp only [Act.put, List.setIfInBounds_toArray, List.set_cons_zero, List.set_cons_succ, i64_w, i32_w]
                      rfl
                    refine pure_ (i := 7) (N := some 44) (v := ?_) (a' := ?_) #[true, true, true, true, true, true, true, true, false, false] rfl rfl (any_of HT_.out (by kernel_rfl)) (fun _ _ _ h => h) (Or.inl ⟨by rfl, ?_⟩) ?_ ?_
                    rotate_left
                    · intro w'
                      go_simp
                      with_reducible rfl
                    rotate_left
                    · simp only [Act.put, List.setIfInBounds_toArray, List.set_cons_zero, List.set_cons_succ, i64_w, i32_w]
                      rfl
                    refine one_ (i := 8) (N := some 7) #[true, true, true, true, true, true, true, true, true, false] rfl rfl (one_of HT_.out (by kernel_rfl)) (by decide) (fun K hK => ?_)
                    refine box_step ?hg (N := 7) ?hd (cs := #[.string (⟨#[]⟩ : ByteArray), .int .i64 0, .string (⟨#[]⟩ : ByteArray), .int .u8 0, .int .u8 0, .int .u8 0, .int .u8 0, .int .u64 0]) (t := 33) ?hr ?_; (case hd => rfl); (case hg => rfl); (case hr => first | (go_simp; done) | (go_simp; rfl))
                    intro gb236 hg w28 hbox hb
                    have HS0_ := (hb.cell (World.block_lt_of_cell? _ _ (hHeld.1))).trans (hHeld.1)
                    have HS1_ := (hb.cell (World.block_lt_of_cell? _ _ (hHeld.2.1))).trans (hHeld.2.1)
                    have HS2_ := (hb.cell (World.block_lt_of_cell? _ _ (hHeld.2.2.1))).trans (hHeld.2.2.1)
                    have HS3_ := (hb.cell (World.block_lt_of_cell? _ _ (hHeld.2.2.2))).trans (hHeld.2.2.2)
                    have n0_ := Aside0.mk (Kd.R_below (by (with_reducible repeat (first | apply Kd.R_alloc | apply Kd.R_drewN | apply Kd.R_drew)); exact HO_4.out) hb)
                    have n1_ := Aside0.mk (blk_below (g := gb226) (o := .cells #[.string (⟨#[]⟩ : ByteArray), .int .i64 0, .string (⟨#[]⟩ : ByteArray), .int .u8 0, .int .u8 0, .int .u8 0, .int .u8 0, .int .u64 0] 33 (0, 0)) (by (with_reducible repeat (first | refine blk_drewN ?_ _ | refine blk_drew ?_ | refine blk_alloc ?_ _)); exact BK226.out) hb)
                    have n2_ := Aside0.mk (below_step (by repeat (first | (with_reducible first | exact HB.out | apply below_alloc | apply pw_below_drewN | apply below_drew1 | refine below_set ?_ GE226.out) | exact HB.out)) hb)
                    have n3_ := Aside0.mk (hbox)
                    have n4_ := Aside0.mk ((by rw [hg]; exact (below_size (by repeat (first | (with_reducible first | exact HB.out | apply below_alloc | apply pw_below_drewN | apply below_drew1 | refine below_set ?_ GE226.out) | exact HB.out))) : w.heap.size ≤ gb236))
                    have n5_ := Aside0.mk ((by rw [hg]; exact (below_size (by repeat (first | (with_reducible first | exact HB.out | apply below_alloc | apply pw_below_drewN | apply below_drew1 | refine below_set ?_ GE226.out) | exact HB.out))) : w.heap.size ≤ gb236))
                    have n6_ := Aside0.mk ((by rw [hg]; exact Nat.ne_of_lt (blk_lt (g := gb226) (o := .cells #[.string (⟨#[]⟩ : ByteArray), .int .i64 0, .string (⟨#[]⟩ : ByteArray), .int .u8 0, .int .u8 0, .int .u8 0, .int .u8 0, .int .u64 0] 33 (0, 0)) (by (with_reducible repeat (first | refine blk_drewN ?_ _ | refine blk_drew ?_ | refine blk_alloc ?_ _)); exact BK226.out)) : gb226 ≠ gb236))
                    have n7_ := Aside0.mk ((by rw [hg]; exact Nat.ne_of_gt (blk_lt (g := gb226) (o := .cells #[.string (⟨#[]⟩ : ByteArray), .int .i64 0, .string (⟨#[]⟩ : ByteArray), .int .u8 0, .int .u8 0, .int .u8 0, .int .u8 0, .int .u64 0] 33 (0, 0)) (by (with_reducible repeat (first | refine blk_drewN ?_ _ | refine blk_drew ?_ | refine blk_alloc ?_ _)); exact BK226.out)) : gb236 ≠ gb226))
                    clear HO_4
                    clear BK226
                    clear HB
                    have HO_4 := n0_
                    have BK226 := n1_
                    have HB := n2_
                    have BK236 := n3_
                    have GW236 := n4_
                    have GE236 := n5_
                    have NB226_236 := n6_
                    have NB236_226 := n7_
                    clear n0_ n1_ n2_ n3_ n4_ n5_ n6_ n7_
                    clear hb hbox hg
                    refine hK.out _ _ ⟨HS0_, HS1_, HS2_, HS3_⟩ (fun hHeld => ?_)
                    clear hK K
                    refine norm_ (a' := ?_) ?_ ?_
                    rotate_left
                    · show Act.put _ (some 7) _ = _
                      simp only [Act.put, List.setIfInBounds_toArray, List.set_cons_zero, List.set_cons_succ, i64_w, i32_w]
                      rfl
                    refine one_ (i := 9) (N := none) #[true, true, true, true, true, true, true, true, true, true] rfl rfl (one_of HT_.out (by kernel_rfl)) (by decide) (fun K hK => ?_)
                    have hs29 : w28.cell? ⟨gb236, 0, none⟩ = some (.string (⟨#[]⟩ : ByteArray)) := (blk_cell BK236.out 0).trans rfl
                    have hfs29 := blk_frozen BK236.out 0
                    have hns29_0 := NB226_236.out
                    have hms29_0 := NB236_226.out
                    have hs30 : w28.cell? ⟨gb236, 1, none⟩ = some (.int .i64 0) := (blk_cell BK236.out 1).trans rfl
                    have hfs30 := blk_frozen BK236.out 1
                    have hns30_0 := NB226_236.out
                    have hms30_0 := NB236_226.out
                    have hs31 : w28.cell? ⟨gb236, 2, none⟩ = some (.string (⟨#[]⟩ : ByteArray)) := (blk_cell BK236.out 2).trans rfl
                    have hfs31 := blk_frozen BK236.out 2
                    have hns31_0 := NB226_236.out
                    have hms31_0 := NB236_226.out
                    have hs32 : w28.cell? ⟨gb236, 3, none⟩ = some (.int .u8 0) := (blk_cell BK236.out 3).trans rfl
                    have hfs32 := blk_frozen BK236.out 3
                    have hns32_0 := NB226_236.out
                    have hms32_0 := NB236_226.out
                    have hs33 : w28.cell? ⟨gb236, 4, none⟩ = some (.int .u8 0) := (blk_cell BK236.out 4).trans rfl
                    have hfs33 := blk_frozen BK236.out 4
                    have hns33_0 := NB226_236.out
                    have hms33_0 := NB236_226.out
                    have hs34 : w28.cell? ⟨gb236, 5, none⟩ = some (.int .u8 0) := (blk_cell BK236.out 5).trans rfl
                    have hfs34 := blk_frozen BK236.out 5
                    have hns34_0 := NB226_236.out
                    have hms34_0 := NB236_226.out
                    have hs35 : w28.cell? ⟨gb236, 6, none⟩ = some (.int .u8 0) := (blk_cell BK236.out 6).trans rfl
                    have hfs35 := blk_frozen BK236.out 6
                    have hns35_0 := NB226_236.out
                    have hms35_0 := NB236_226.out
                    have hs36 : w28.cell? ⟨gb236, 7, none⟩ = some (.int .u64 0) := (blk_cell BK236.out 7).trans rfl
                    have hfs36 := blk_frozen BK236.out 7
                    have hns36_0 := NB226_236.out
                    have hms36_0 := NB236_226.out
                    refine skip_ (w1 := ?_) (by rfl) rfl ?_ ?_
                    rotate_left
                    · go_simp
                      rfl
                    refine hK.out _ _ ⟨(far_cell_ (g := gb236) (by with_reducible repeat (first | exact FarFrom_.refl _ _ | apply FarFrom_.set)) (by first | exact Kd.own_blk (Kd.R_ne HO_4.out BK236.out (by decide)) | (rw [add_block]; exact Kd.own_blk (Kd.R_ne HO_4.out BK236.out (by decide))) | (show (Addr.add _ _).block ≠ _; rw [add_block]; exact Kd.own_blk (Kd.R_ne HO_4.out BK236.out (by decide))) | (dsimp only; exact Kd.own_blk (Kd.R_ne HO_4.out BK236.out (by decide)))) (hHeld.1)), (far_cell_ (g := gb236) (by with_reducible repeat (first | exact FarFrom_.refl _ _ | apply FarFrom_.set)) (by first | exact Kd.own_blk (Kd.R_ne HO_4.out BK236.out (by decide)) | (rw [add_block]; exact Kd.own_blk (Kd.R_ne HO_4.out BK236.out (by decide))) | (show (Addr.add _ _).block ≠ _; rw [add_block]; exact Kd.own_blk (Kd.R_ne HO_4.out BK236.out (by decide))) | (dsimp only; exact Kd.own_blk (Kd.R_ne HO_4.out BK236.out (by decide)))) (hHeld.2.1)), (far_cell_ (g := gb236) (by with_reducible repeat (first | exact FarFrom_.refl _ _ | apply FarFrom_.set)) (by first | exact Kd.own_blk (Kd.R_ne HO_4.out BK236.out (by decide)) | (rw [add_block]; exact Kd.own_blk (Kd.R_ne HO_4.out BK236.out (by decide))) | (show (Addr.add _ _).block ≠ _; rw [add_block]; exact Kd.own_blk (Kd.R_ne HO_4.out BK236.out (by decide))) | (dsimp only; exact Kd.own_blk (Kd.R_ne HO_4.out BK236.out (by decide)))) (hHeld.2.2.1)), (far_cell_ (g := gb236) (by with_reducible repeat (first | exact FarFrom_.refl _ _ | apply FarFrom_.set)) (by first | exact Kd.own_blk (Kd.R_ne HO_4.out BK236.out (by decide)) | (rw [add_block]; exact Kd.own_blk (Kd.R_ne HO_4.out BK236.out (by decide))) | (show (Addr.add _ _).block ≠ _; rw [add_block]; exact Kd.own_blk (Kd.R_ne HO_4.out BK236.out (by decide))) | (dsimp only; exact Kd.own_blk (Kd.R_ne HO_4.out BK236.out (by decide)))) (hHeld.2.2.2))⟩ (fun hHeld => ?_)
                    clear hK K
                    refine done_ (done_of HT_.out (by kernel_rfl)) ?_
                    go_upto_region 7 with (fail)
                    go_cut [58] (fun v58 wc => ∃ (kq : Nat) (x58_24 : Bool), v58 = .bool x58_24 ∧ Aside0 (cornucopiaref20_Parse.j2 kq t231 x58_24 ((rd_T57 t230 0).f1) (wrap64 (bt t231 0)) (⟨#[]⟩ : ByteArray) 0 0 0 0 0 = some (r1, r2, r3, r4, r5, r6, r7, r8, r9)) ∧ Aside0 (kq ≤ kj10) ∧ Aside0 (wc.heap[gb226]? = some (.cells #[.string (⟨#[]⟩ : ByteArray), .int .i64 0, .string (⟨#[]⟩ : ByteArray), .int .u8 0, .int .u8 0, .int .u8 0, .int .u8 0, .int .u64 0] 33 (0, 0))) ∧ Aside0 (wc.heap[gb236]? = some (.cells #[.string ((rd_T57 t230 0).f1), .int .i64 (wrap64 (bt t231 0)), .string (⟨#[]⟩ : ByteArray), .int .u8 0, .int .u8 0, .int .u8 0, .int .u8 0, .int .u64 0] 33 (0, 0))) ∧ Aside0 (Below w.heap.size w wc))
                    case first =>
                      have H := HC25.out
                      clear HC25
                      replace H := Option.bind_eq_some_iff.mp H
                      obtain ⟨t237, A370, H⟩ := H
                      replace H : (if t237 = true then (if (wrap64 (bt t231 0)) < 3 then (cornucopiaref20_Parse.j2 kj10 t231 (decide ((t231.size : Int) > 1)) ((rd_T57 t230 0).f1) (wrap64 (bt t231 0)) (⟨#[]⟩ : ByteArray) 0 0 0 0 0) else (cornucopiaref20_Parse.j2 kj10 t231 false ((rd_T57 t230 0).f1) (wrap64 (bt t231 0)) (⟨#[]⟩ : ByteArray) 0 0 0 0 0)) else (cornucopiaref20_Parse.j2 kj10 t231 true ((rd_T57 t230 0).f1) (wrap64 (bt t231 0)) (⟨#[]⟩ : ByteArray) 0 0 0 0 0)) = some (r1, r2, r3, r4, r5, r6, r7, r8, r9) := H
                      have A37 := Aside0.mk A370
                      clear A370
                      by_cases c38 : t237 = true
                      · subst c38
                        have H1 : (if (wrap64 (bt t231 0)) < 3 then (cornucopiaref20_Parse.j2 kj10 t231 (decide ((t231.size : Int) > 1)) ((rd_T57 t230 0).f1) (wrap64 (bt t231 0)) (⟨#[]⟩ : ByteArray) 0 0 0 0 0) else (cornucopiaref20_Parse.j2 kj10 t231 false ((rd_T57 t230 0).f1) (wrap64 (bt t231 0)) (⟨#[]⟩ : ByteArray) 0 0 0 0 0)) = some (r1, r2, r3, r4, r5, r6, r7, r8, r9) := by rw [if_pos rfl] at H; exact H
                        clear H
                        have H := H1
                        clear H1
                        by_cases c39 : (wrap64 (bt t231 0)) < 3
                        · rw [if_pos c39] at H
                          have c39b0 : decide ((wrap64 (bt t231 0)) < 3) = true := decide_eq_true c39
                          clear c39
                          (first | rw [c39b0] | (simp only [i64_w, i32_w]; rw [c39b0]) | skip)
                          have H' := Aside0.mk H
                          clear H
                          have hnb40 := NB236_226.out
                          have hnc40 := NB226_236.out
                          have hcz41_0 : w28.cell? ⟨gb236, 0, none⟩ = some (.string (⟨#[]⟩ : ByteArray)) := (blk_cell BK236.out 0).trans rfl
                          have hcz41_1 : w28.cell? ⟨gb236, 1, none⟩ = some (.int .i64 0) := (blk_cell BK236.out 1).trans rfl
                          have hcz41_2 : w28.cell? ⟨gb236, 2, none⟩ = some (.string (⟨#[]⟩ : ByteArray)) := (blk_cell BK236.out 2).trans rfl
                          have hcz41_3 : w28.cell? ⟨gb236, 3, none⟩ = some (.int .u8 0) := (blk_cell BK236.out 3).trans rfl
                          have hcz41_4 : w28.cell? ⟨gb236, 4, none⟩ = some (.int .u8 0) := (blk_cell BK236.out 4).trans rfl
                          have hcz41_5 : w28.cell? ⟨gb236, 5, none⟩ = some (.int .u8 0) := (blk_cell BK236.out 5).trans rfl
                          have hcz41_6 : w28.cell? ⟨gb236, 6, none⟩ = some (.int .u8 0) := (blk_cell BK236.out 6).trans rfl
                          have hcz41_7 : w28.cell? ⟨gb236, 7, none⟩ = some (.int .u64 0) := (blk_cell BK236.out 7).trans rfl
                          have hfz41_0 := blk_frozen BK236.out 0
                          have hfz41_1 := blk_frozen BK236.out 1
                          have hfz41_2 := blk_frozen BK236.out 2
                          have hfz41_3 := blk_frozen BK236.out 3
                          have hfz41_4 := blk_frozen BK236.out 4
                          have hfz41_5 := blk_frozen BK236.out 5
                          have hfz41_6 := blk_frozen BK236.out 6
                          have hfz41_7 := blk_frozen BK236.out 7
                          go_wp2_with (first | ((with_reducible refine gate_callee (f := 18) rfl ?_); refine goesL_ (some 47) rfl rfl Tryd.func18 (by kernel_rfl) rfl #[.string ((rd_T57 t230 0).f1)] rfl (by (try simp only [List.map_toArray, List.map_cons, List.map_nil]); first | done | rfl | (simp only [List.length_drop, List.length_take]; rfl)) ?_; (with_reducible refine (cornucopiaref20_ValidName.calls ((rd_T57 t230 0).f1) true _ A37.out).mono ?_); rintro e w' ⟨rfl, ⟨nd, rfl⟩⟩; refine ⟨_, rfl, ?_⟩))
                          go_meet
                          case rel => exact ⟨_, (decide ((t231.size : Int) > 1)), (by first | rfl | (simp; done) | (simp [*]; done)), H', ⟨by have := HJ1.out; have := HJ10.out; first | omega | exact Nat.le_refl _⟩, ⟨by (with_reducible repeat (first | refine blk_drewN ?_ _ | refine blk_drew ?_ | refine blk_alloc ?_ _)); refine blk_far ?_ NB226_236.out _; (with_reducible repeat (first | refine blk_drewN ?_ _ | refine blk_drew ?_ | refine blk_alloc ?_ _)); refine blk_far ?_ NB226_236.out _; (with_reducible repeat (first | refine blk_drewN ?_ _ | refine blk_drew ?_ | refine blk_alloc ?_ _)); refine blk_far ?_ NB226_236.out _; (with_reducible repeat (first | refine blk_drewN ?_ _ | refine blk_drew ?_ | refine blk_alloc ?_ _)); refine blk_far ?_ NB226_236.out _; (with_reducible repeat (first | refine blk_drewN ?_ _ | refine blk_drew ?_ | refine blk_alloc ?_ _)); refine blk_far ?_ NB226_236.out _; (with_reducible repeat (first | refine blk_drewN ?_ _ | refine blk_drew ?_ | refine blk_alloc ?_ _)); refine blk_far ?_ NB226_236.out _; (with_reducible repeat (first | refine blk_drewN ?_ _ | refine blk_drew ?_ | refine blk_alloc ?_ _)); refine blk_far ?_ NB226_236.out _; (with_reducible repeat (first | refine blk_drewN ?_ _ | refine blk_drew ?_ | refine blk_alloc ?_ _)); refine blk_far ?_ NB226_236.out _; (with_reducible repeat (first | refine blk_drewN ?_ _ | refine blk_drew ?_ | refine blk_alloc ?_ _)); exact BK226.out⟩, ⟨by (with_reducible repeat (first | refine blk_drewN ?_ _ | refine blk_drew ?_ | refine blk_alloc ?_ _)); refine blk_put (cs := #[.string ((rd_T57 t230 0).f1), .int .i64 (wrap64 (bt t231 0)), .string (⟨#[]⟩ : ByteArray), .int .u8 0, .int .u8 0, .int .u8 0, .int .u8 0, .int .u64 0]) ?_ 7 _ rfl; (with_reducible repeat (first | refine blk_drewN ?_ _ | refine blk_drew ?_ | refine blk_alloc ?_ _)); refine blk_put (cs := #[.string ((rd_T57 t230 0).f1), .int .i64 (wrap64 (bt t231 0)), .string (⟨#[]⟩ : ByteArray), .int .u8 0, .int .u8 0, .int .u8 0, .int .u8 0, .int .u64 0]) ?_ 6 _ rfl; (with_reducible repeat (first | refine blk_drewN ?_ _ | refine blk_drew ?_ | refine blk_alloc ?_ _)); refine blk_put (cs := #[.string ((rd_T57 t230 0).f1), .int .i64 (wrap64 (bt t231 0)), .string (⟨#[]⟩ : ByteArray), .int .u8 0, .int .u8 0, .int .u8 0, .int .u8 0, .int .u64 0]) ?_ 5 _ rfl; (with_reducible repeat (first | refine blk_drewN ?_ _ | refine blk_drew ?_ | refine blk_alloc ?_ _)); refine blk_put (cs := #[.string ((rd_T57 t230 0).f1), .int .i64 (wrap64 (bt t231 0)), .string (⟨#[]⟩ : ByteArray), .int .u8 0, .int .u8 0, .int .u8 0, .int .u8 0, .int .u64 0]) ?_ 4 _ rfl; (with_reducible repeat (first | refine blk_drewN ?_ _ | refine blk_drew ?_ | refine blk_alloc ?_ _)); refine blk_put (cs := #[.string ((rd_T57 t230 0).f1), .int .i64 (wrap64 (bt t231 0)), .string (⟨#[]⟩ : ByteArray), .int .u8 0, .int .u8 0, .int .u8 0, .int .u8 0, .int .u64 0]) ?_ 3 _ rfl; (with_reducible repeat (first | refine blk_drewN ?_ _ | refine blk_drew ?_ | refine blk_alloc ?_ _)); refine blk_put (cs := #[.string ((rd_T57 t230 0).f1), .int .i64 (wrap64 (bt t231 0)), .string (⟨#[]⟩ : ByteArray), .int .u8 0, .int .u8 0, .int .u8 0, .int .u8 0, .int .u64 0]) ?_ 2 _ rfl; (with_reducible repeat (first | refine blk_drewN ?_ _ | refine blk_drew ?_ | refine blk_alloc ?_ _)); refine blk_put (cs := #[.string ((rd_T57 t230 0).f1), .int .i64 0, .string (⟨#[]⟩ : ByteArray), .int .u8 0, .int .u8 0, .int .u8 0, .int .u8 0, .int .u64 0]) ?_ 1 _ rfl; (with_reducible repeat (first | refine blk_drewN ?_ _ | refine blk_drew ?_ | refine blk_alloc ?_ _)); refine blk_put (cs := #[.string (⟨#[]⟩ : ByteArray), .int .i64 0, .string (⟨#[]⟩ : ByteArray), .int .u8 0, .int .u8 0, .int .u8 0, .int .u8 0, .int .u64 0]) ?_ 0 _ rfl; (with_reducible repeat (first | refine blk_drewN ?_ _ | refine blk_drew ?_ | refine blk_alloc ?_ _)); exact BK236.out⟩, ⟨by repeat (first | (with_reducible first | exact HB.out | apply below_alloc | apply pw_below_drewN | apply below_drew1 | refine below_set ?_ GE226.out | refine below_set ?_ GE236.out) | exact HB.out)⟩⟩
                        · rw [if_neg c39] at H
                          have c39b0 : decide ((wrap64 (bt t231 0)) < 3) = false := decide_eq_false c39
                          clear c39
                          (first | rw [c39b0] | (simp only [i64_w, i32_w]; rw [c39b0]) | skip)
                          have H' := Aside0.mk H
                          clear H
                          have hnb42 := NB236_226.out
                          have hnc42 := NB226_236.out
                          have hcz43_0 : w28.cell? ⟨gb236, 0, none⟩ = some (.string (⟨#[]⟩ : ByteArray)) := (blk_cell BK236.out 0).trans rfl
                          have hcz43_1 : w28.cell? ⟨gb236, 1, none⟩ = some (.int .i64 0) := (blk_cell BK236.out 1).trans rfl
                          have hcz43_2 : w28.cell? ⟨gb236, 2, none⟩ = some (.string (⟨#[]⟩ : ByteArray)) := (blk_cell BK236.out 2).trans rfl
                          have hcz43_3 : w28.cell? ⟨gb236, 3, none⟩ = some (.int .u8 0) := (blk_cell BK236.out 3).trans rfl
                          have hcz43_4 : w28.cell? ⟨gb236, 4, none⟩ = some (.int .u8 0) := (blk_cell BK236.out 4).trans rfl
                          have hcz43_5 : w28.cell? ⟨gb236, 5, none⟩ = some (.int .u8 0) := (blk_cell BK236.out 5).trans rfl
                          have hcz43_6 : w28.cell? ⟨gb236, 6, none⟩ = some (.int .u8 0) := (blk_cell BK236.out 6).trans rfl
                          have hcz43_7 : w28.cell? ⟨gb236, 7, none⟩ = some (.int .u64 0) := (blk_cell BK236.out 7).trans rfl
                          have hfz43_0 := blk_frozen BK236.out 0
                          have hfz43_1 := blk_frozen BK236.out 1
                          have hfz43_2 := blk_frozen BK236.out 2
                          have hfz43_3 := blk_frozen BK236.out 3
                          have hfz43_4 := blk_frozen BK236.out 4
                          have hfz43_5 := blk_frozen BK236.out 5
                          have hfz43_6 := blk_frozen BK236.out 6
                          have hfz43_7 := blk_frozen BK236.out 7
                          go_wp2_with (first | ((with_reducible refine gate_callee (f := 18) rfl ?_); refine goesL_ (some 47) rfl rfl Tryd.func18 (by kernel_rfl) rfl #[.string ((rd_T57 t230 0).f1)] rfl (by (try simp only [List.map_toArray, List.map_cons, List.map_nil]); first | done | rfl | (simp only [List.length_drop, List.length_take]; rfl)) ?_; (with_reducible refine (cornucopiaref20_ValidName.calls ((rd_T57 t230 0).f1) true _ A37.out).mono ?_); rintro e w' ⟨rfl, ⟨nd, rfl⟩⟩; refine ⟨_, rfl, ?_⟩))
                          go_meet
                          case rel => exact ⟨_, (false), (by first | rfl | (simp; done) | (simp [*]; done)), H', ⟨by have := HJ1.out; have := HJ10.out; first | omega | exact Nat.le_refl _⟩, ⟨by (with_reducible repeat (first | refine blk_drewN ?_ _ | refine blk_drew ?_ | refine blk_alloc ?_ _)); refine blk_far ?_ NB226_236.out _; (with_reducible repeat (first | refine blk_drewN ?_ _ | refine blk_drew ?_ | refine blk_alloc ?_ _)); refine blk_far ?_ NB226_236.out _; (with_reducible repeat (first | refine blk_drewN ?_ _ | refine blk_drew ?_ | refine blk_alloc ?_ _)); refine blk_far ?_ NB226_236.out _; (with_reducible repeat (first | refine blk_drewN ?_ _ | refine blk_drew ?_ | refine blk_alloc ?_ _)); refine blk_far ?_ NB226_236.out _; (with_reducible repeat (first | refine blk_drewN ?_ _ | refine blk_drew ?_ | refine blk_alloc ?_ _)); refine blk_far ?_ NB226_236.out _; (with_reducible repeat (first | refine blk_drewN ?_ _ | refine blk_drew ?_ | refine blk_alloc ?_ _)); refine blk_far ?_ NB226_236.out _; (with_reducible repeat (first | refine blk_drewN ?_ _ | refine blk_drew ?_ | refine blk_alloc ?_ _)); refine blk_far ?_ NB226_236.out _; (with_reducible repeat (first | refine blk_drewN ?_ _ | refine blk_drew ?_ | refine blk_alloc ?_ _)); refine blk_far ?_ NB226_236.out _; (with_reducible repeat (first | refine blk_drewN ?_ _ | refine blk_drew ?_ | refine blk_alloc ?_ _)); exact BK226.out⟩, ⟨by (with_reducible repeat (first | refine blk_drewN ?_ _ | refine blk_drew ?_ | refine blk_alloc ?_ _)); refine blk_put (cs := #[.string ((rd_T57 t230 0).f1), .int .i64 (wrap64 (bt t231 0)), .string (⟨#[]⟩ : ByteArray), .int .u8 0, .int .u8 0, .int .u8 0, .int .u8 0, .int .u64 0]) ?_ 7 _ rfl; (with_reducible repeat (first | refine blk_drewN ?_ _ | refine blk_drew ?_ | refine blk_alloc ?_ _)); refine blk_put (cs := #[.string ((rd_T57 t230 0).f1), .int .i64 (wrap64 (bt t231 0)), .string (⟨#[]⟩ : ByteArray), .int .u8 0, .int .u8 0, .int .u8 0, .int .u8 0, .int .u64 0]) ?_ 6 _ rfl; (with_reducible repeat (first | refine blk_drewN ?_ _ | refine blk_drew ?_ | refine blk_alloc ?_ _)); refine blk_put (cs := #[.string ((rd_T57 t230 0).f1), .int .i64 (wrap64 (bt t231 0)), .string (⟨#[]⟩ : ByteArray), .int .u8 0, .int .u8 0, .int .u8 0, .int .u8 0, .int .u64 0]) ?_ 5 _ rfl; (with_reducible repeat (first | refine blk_drewN ?_ _ | refine blk_drew ?_ | refine blk_alloc ?_ _)); refine blk_put (cs := #[.string ((rd_T57 t230 0).f1), .int .i64 (wrap64 (bt t231 0)), .string (⟨#[]⟩ : ByteArray), .int .u8 0, .int .u8 0, .int .u8 0, .int .u8 0, .int .u64 0]) ?_ 4 _ rfl; (with_reducible repeat (first | refine blk_drewN ?_ _ | refine blk_drew ?_ | refine blk_alloc ?_ _)); refine blk_put (cs := #[.string ((rd_T57 t230 0).f1), .int .i64 (wrap64 (bt t231 0)), .string (⟨#[]⟩ : ByteArray), .int .u8 0, .int .u8 0, .int .u8 0, .int .u8 0, .int .u64 0]) ?_ 3 _ rfl; (with_reducible repeat (first | refine blk_drewN ?_ _ | refine blk_drew ?_ | refine blk_alloc ?_ _)); refine blk_put (cs := #[.string ((rd_T57 t230 0).f1), .int .i64 (wrap64 (bt t231 0)), .string (⟨#[]⟩ : ByteArray), .int .u8 0, .int .u8 0, .int .u8 0, .int .u8 0, .int .u64 0]) ?_ 2 _ rfl; (with_reducible repeat (first | refine blk_drewN ?_ _ | refine blk_drew ?_ | refine blk_alloc ?_ _)); refine blk_put (cs := #[.string ((rd_T57 t230 0).f1), .int .i64 0, .string (⟨#[]⟩ : ByteArray), .int .u8 0, .int .u8 0, .int .u8 0, .int .u8 0, .int .u64 0]) ?_ 1 _ rfl; (with_reducible repeat (first | refine blk_drewN ?_ _ | refine blk_drew ?_ | refine blk_alloc ?_ _)); refine blk_put (cs := #[.string (⟨#[]⟩ : ByteArray), .int .i64 0, .string (⟨#[]⟩ : ByteArray), .int .u8 0, .int .u8 0, .int .u8 0, .int .u8 0, .int .u64 0]) ?_ 0 _ rfl; (with_reducible repeat (first | refine blk_drewN ?_ _ | refine blk_drew ?_ | refine blk_alloc ?_ _)); exact BK236.out⟩, ⟨by repeat (first | (with_reducible first | exact HB.out | apply below_alloc | apply pw_below_drewN | apply below_drew1 | refine below_set ?_ GE226.out | refine below_set ?_ GE236.out) | exact HB.out)⟩⟩
                      · replace c38 := Bool.eq_false_iff.mpr c38
                        subst c38
                        have H1 : (cornucopiaref20_Parse.j2 kj10 t231 true ((rd_T57 t230 0).f1) (wrap64 (bt t231 0)) (⟨#[]⟩ : ByteArray) 0 0 0 0 0) = some (r1, r2, r3, r4, r5, r6, r7, r8, r9) := by rw [if_neg (show ¬ (false = true) by decide)] at H; exact H
                        clear H
                        have H := H1
                        clear H1
                        have H' := Aside0.mk H
                        clear H
                        have hnb44 := NB236_226.out
                        have hnc44 := NB226_236.out
                        have hcz45_0 : w28.cell? ⟨gb236, 0, none⟩ = some (.string (⟨#[]⟩ : ByteArray)) := (blk_cell BK236.out 0).trans rfl
                        have hcz45_1 : w28.cell? ⟨gb236, 1, none⟩ = some (.int .i64 0) := (blk_cell BK236.out 1).trans rfl
                        have hcz45_2 : w28.cell? ⟨gb236, 2, none⟩ = some (.string (⟨#[]⟩ : ByteArray)) := (blk_cell BK236.out 2).trans rfl
                        have hcz45_3 : w28.cell? ⟨gb236, 3, none⟩ = some (.int .u8 0) := (blk_cell BK236.out 3).trans rfl
                        have hcz45_4 : w28.cell? ⟨gb236, 4, none⟩ = some (.int .u8 0) := (blk_cell BK236.out 4).trans rfl
                        have hcz45_5 : w28.cell? ⟨gb236, 5, none⟩ = some (.int .u8 0) := (blk_cell BK236.out 5).trans rfl
                        have hcz45_6 : w28.cell? ⟨gb236, 6, none⟩ = some (.int .u8 0) := (blk_cell BK236.out 6).trans rfl
                        have hcz45_7 : w28.cell? ⟨gb236, 7, none⟩ = some (.int .u64 0) := (blk_cell BK236.out 7).trans rfl
                        have hfz45_0 := blk_frozen BK236.out 0
                        have hfz45_1 := blk_frozen BK236.out 1
                        have hfz45_2 := blk_frozen BK236.out 2
                        have hfz45_3 := blk_frozen BK236.out 3
                        have hfz45_4 := blk_frozen BK236.out 4
                        have hfz45_5 := blk_frozen BK236.out 5
                        have hfz45_6 := blk_frozen BK236.out 6
                        have hfz45_7 := blk_frozen BK236.out 7
                        go_wp2_with (first | ((with_reducible refine gate_callee (f := 18) rfl ?_); refine goesL_ (some 47) rfl rfl Tryd.func18 (by kernel_rfl) rfl #[.string ((rd_T57 t230 0).f1)] rfl (by (try simp only [List.map_toArray, List.map_cons, List.map_nil]); first | done | rfl | (simp only [List.length_drop, List.length_take]; rfl)) ?_; (with_reducible refine (cornucopiaref20_ValidName.calls ((rd_T57 t230 0).f1) false _ A37.out).mono ?_); rintro e w' ⟨rfl, ⟨nd, rfl⟩⟩; refine ⟨_, rfl, ?_⟩))
                        go_meet
                        case rel => exact ⟨_, (true), (by first | rfl | (simp; done) | (simp [*]; done)), H', ⟨by have := HJ1.out; have := HJ10.out; first | omega | exact Nat.le_refl _⟩, ⟨by (with_reducible repeat (first | refine blk_drewN ?_ _ | refine blk_drew ?_ | refine blk_alloc ?_ _)); refine blk_far ?_ NB226_236.out _; (with_reducible repeat (first | refine blk_drewN ?_ _ | refine blk_drew ?_ | refine blk_alloc ?_ _)); refine blk_far ?_ NB226_236.out _; (with_reducible repeat (first | refine blk_drewN ?_ _ | refine blk_drew ?_ | refine blk_alloc ?_ _)); refine blk_far ?_ NB226_236.out _; (with_reducible repeat (first | refine blk_drewN ?_ _ | refine blk_drew ?_ | refine blk_alloc ?_ _)); refine blk_far ?_ NB226_236.out _; (with_reducible repeat (first | refine blk_drewN ?_ _ | refine blk_drew ?_ | refine blk_alloc ?_ _)); refine blk_far ?_ NB226_236.out _; (with_reducible repeat (first | refine blk_drewN ?_ _ | refine blk_drew ?_ | refine blk_alloc ?_ _)); refine blk_far ?_ NB226_236.out _; (with_reducible repeat (first | refine blk_drewN ?_ _ | refine blk_drew ?_ | refine blk_alloc ?_ _)); refine blk_far ?_ NB226_236.out _; (with_reducible repeat (first | refine blk_drewN ?_ _ | refine blk_drew ?_ | refine blk_alloc ?_ _)); refine blk_far ?_ NB226_236.out _; (with_reducible repeat (first | refine blk_drewN ?_ _ | refine blk_drew ?_ | refine blk_alloc ?_ _)); exact BK226.out⟩, ⟨by (with_reducible repeat (first | refine blk_drewN ?_ _ | refine blk_drew ?_ | refine blk_alloc ?_ _)); refine blk_put (cs := #[.string ((rd_T57 t230 0).f1), .int .i64 (wrap64 (bt t231 0)), .string (⟨#[]⟩ : ByteArray), .int .u8 0, .int .u8 0, .int .u8 0, .int .u8 0, .int .u64 0]) ?_ 7 _ rfl; (with_reducible repeat (first | refine blk_drewN ?_ _ | refine blk_drew ?_ | refine blk_alloc ?_ _)); refine blk_put (cs := #[.string ((rd_T57 t230 0).f1), .int .i64 (wrap64 (bt t231 0)), .string (⟨#[]⟩ : ByteArray), .int .u8 0, .int .u8 0, .int .u8 0, .int .u8 0, .int .u64 0]) ?_ 6 _ rfl; (with_reducible repeat (first | refine blk_drewN ?_ _ | refine blk_drew ?_ | refine blk_alloc ?_ _)); refine blk_put (cs := #[.string ((rd_T57 t230 0).f1), .int .i64 (wrap64 (bt t231 0)), .string (⟨#[]⟩ : ByteArray), .int .u8 0, .int .u8 0, .int .u8 0, .int .u8 0, .int .u64 0]) ?_ 5 _ rfl; (with_reducible repeat (first | refine blk_drewN ?_ _ | refine blk_drew ?_ | refine blk_alloc ?_ _)); refine blk_put (cs := #[.string ((rd_T57 t230 0).f1), .int .i64 (wrap64 (bt t231 0)), .string (⟨#[]⟩ : ByteArray), .int .u8 0, .int .u8 0, .int .u8 0, .int .u8 0, .int .u64 0]) ?_ 4 _ rfl; (with_reducible repeat (first | refine blk_drewN ?_ _ | refine blk_drew ?_ | refine blk_alloc ?_ _)); refine blk_put (cs := #[.string ((rd_T57 t230 0).f1), .int .i64 (wrap64 (bt t231 0)), .string (⟨#[]⟩ : ByteArray), .int .u8 0, .int .u8 0, .int .u8 0, .int .u8 0, .int .u64 0]) ?_ 3 _ rfl; (with_reducible repeat (first | refine blk_drewN ?_ _ | refine blk_drew ?_ | refine blk_alloc ?_ _)); refine blk_put (cs := #[.string ((rd_T57 t230 0).f1), .int .i64 (wrap64 (bt t231 0)), .string (⟨#[]⟩ : ByteArray), .int .u8 0, .int .u8 0, .int .u8 0, .int .u8 0, .int .u64 0]) ?_ 2 _ rfl; (with_reducible repeat (first | refine blk_drewN ?_ _ | refine blk_drew ?_ | refine blk_alloc ?_ _)); refine blk_put (cs := #[.string ((rd_T57 t230 0).f1), .int .i64 0, .string (⟨#[]⟩ : ByteArray), .int .u8 0, .int .u8 0, .int .u8 0, .int .u8 0, .int .u64 0]) ?_ 1 _ rfl; (with_reducible repeat (first | refine blk_drewN ?_ _ | refine blk_drew ?_ | refine blk_alloc ?_ _)); refine blk_put (cs := #[.string (⟨#[]⟩ : ByteArray), .int .i64 0, .string (⟨#[]⟩ : ByteArray), .int .u8 0, .int .u8 0, .int .u8 0, .int .u8 0, .int .u64 0]) ?_ 0 _ rfl; (with_reducible repeat (first | refine blk_drewN ?_ _ | refine blk_drew ?_ | refine blk_alloc ?_ _)); exact BK236.out⟩, ⟨by repeat (first | (with_reducible first | exact HB.out | apply below_alloc | apply pw_below_drewN | apply below_drew1 | refine below_set ?_ GE226.out | refine below_set ?_ GE236.out) | exact HB.out)⟩⟩
                    case rest =>
                      clear HC25
                      try clear c1
                      try clear p1
                      try clear q1
                      try clear hx1
                      try clear qi1
                      try clear c2
                      try clear p2
                      try clear q2
                      try clear hx2
                      try clear qi2
                      try clear c3
                      try clear c4
                      try clear c4b0
                      try clear c4b1
                      try clear c5
                      try clear c5b0
                      try clear c5b1
                      try clear p6
                      try clear q6
                      try clear hx6
                      try clear qi6
                      try clear c7
                      try clear c8
                      try clear c9
                      try clear c9b0
                      try clear c9b1
                      try clear c16
                      try clear c16b0
                      try clear c16b1
                      try clear c17
                      try clear c17b0
                      try clear c17b1
                      try clear c18
                      try clear c18b0
                      try clear c18b1
                      try clear p19
                      try clear q19
                      try clear hx19
                      try clear qi19
                      try clear c20
                      try clear c22
                      try clear c22b0
                      try clear c22b1
                      try clear c23
                      try clear c23b0
                      try clear c23b1
                      try clear p23
                      try clear q23
                      try clear hx23
                      try clear qi23
                      try clear c24
                      try clear p24
                      try clear q24
                      try clear hx24
                      try clear qi24
                      try clear c38
                      try clear c39
                      try clear c39b0
                      try clear c40
                      try clear c42
                      try clear c44
                      try clear hcz21_0
                      try clear hcz21_1
                      try clear hcz21_2
                      try clear hcz21_3
                      try clear hcz21_4
                      try clear hcz21_5
                      try clear hcz21_6
                      try clear hcz21_7
                      try clear hcz41_0
                      try clear hcz41_1
                      try clear hcz41_2
                      try clear hcz41_3
                      try clear hcz41_4
                      try clear hcz41_5
                      try clear hcz41_6
                      try clear hcz41_7
                      try clear hcz43_0
                      try clear hcz43_1
                      try clear hcz43_2
                      try clear hcz43_3
                      try clear hcz43_4
                      try clear hcz43_5
                      try clear hcz43_6
                      try clear hcz43_7
                      try clear hcz45_0
                      try clear hcz45_1
                      try clear hcz45_2
                      try clear hcz45_3
                      try clear hcz45_4
                      try clear hcz45_5
                      try clear hcz45_6
                      try clear hcz45_7
                      try clear hcz8_0
                      try clear hcz8_1
                      try clear hcz8_2
                      try clear hcz8_3
                      try clear hcz8_4
                      try clear hcz8_5
                      try clear hcz8_6
                      try clear hcz8_7
                      try clear hfz21_0
                      try clear hfz21_1
                      try clear hfz21_2
                      try clear hfz21_3
                      try clear hfz21_4
                      try clear hfz21_5
                      try clear hfz21_6
                      try clear hfz21_7
                      try clear hfz41_0
                      try clear hfz41_1
                      try clear hfz41_2
                      try clear hfz41_3
                      try clear hfz41_4
                      try clear hfz41_5
                      try clear hfz41_6
                      try clear hfz41_7
                      try clear hfz43_0
                      try clear hfz43_1
                      try clear hfz43_2
                      try clear hfz43_3
                      try clear hfz43_4
                      try clear hfz43_5
                      try clear hfz43_6
                      try clear hfz43_7
                      try clear hfz45_0
                      try clear hfz45_1
                      try clear hfz45_2
                      try clear hfz45_3
                      try clear hfz45_4
                      try clear hfz45_5
                      try clear hfz45_6
                      try clear hfz45_7
                      try clear hfz8_0
                      try clear hfz8_1
                      try clear hfz8_2
                      try clear hfz8_3
                      try clear hfz8_4
                      try clear hfz8_5
                      try clear hfz8_6
                      try clear hfz8_7
                      try clear hx235_0
                      try clear hx235_1
                      try clear hx235_2
                      try clear hx235_3
                      try clear p1
                      try clear p19
                      try clear p2
                      try clear p235
                      try clear p24
                      try clear p6
                      try clear q1
                      try clear q19
                      try clear q235
                      try clear q24
                      try clear q6
                      obtain ⟨kq, x58_24, rfl, HA, HJ24, BK226, BK236, HB⟩ := hcut
                      cases kq with
                      | zero => exact absurd HA.out (by simp [cornucopiaref20_Parse.j2])
                      | succ kj24 =>
                        have H := HA.out
                        clear HA
                        simp only [cornucopiaref20_Parse.j2] at H
                        by_cases c46 : x58_24 = true
                        · subst c46
                          have H1 : (some ((⟨#[]⟩ : ByteArray), 0, (⟨#[]⟩ : ByteArray), 0, 0, 0, 0, 0, 4)) = some (r1, r2, r3, r4, r5, r6, r7, r8, r9) := by rw [if_pos rfl] at H; exact H
                          clear H
                          have H := H1
                          clear H1
                          simp only [Option.some.injEq, Prod.mk.injEq] at H
                          obtain ⟨rfl, rfl, rfl, rfl, rfl, rfl, rfl, rfl, rfl⟩ := H
                          have hnb47 := NB226_236.out
                          have hnc47 := NB236_226.out
                          have hcz48_0 : wc.cell? ⟨gb226, 0, none⟩ = some (.string (⟨#[]⟩ : ByteArray)) := (blk_cell BK226.out 0).trans rfl
                          have hcz48_1 : wc.cell? ⟨gb226, 1, none⟩ = some (.int .i64 0) := (blk_cell BK226.out 1).trans rfl
                          have hcz48_2 : wc.cell? ⟨gb226, 2, none⟩ = some (.string (⟨#[]⟩ : ByteArray)) := (blk_cell BK226.out 2).trans rfl
                          have hcz48_3 : wc.cell? ⟨gb226, 3, none⟩ = some (.int .u8 0) := (blk_cell BK226.out 3).trans rfl
                          have hcz48_4 : wc.cell? ⟨gb226, 4, none⟩ = some (.int .u8 0) := (blk_cell BK226.out 4).trans rfl
                          have hcz48_5 : wc.cell? ⟨gb226, 5, none⟩ = some (.int .u8 0) := (blk_cell BK226.out 5).trans rfl
                          have hcz48_6 : wc.cell? ⟨gb226, 6, none⟩ = some (.int .u8 0) := (blk_cell BK226.out 6).trans rfl
                          have hcz48_7 : wc.cell? ⟨gb226, 7, none⟩ = some (.int .u64 0) := (blk_cell BK226.out 7).trans rfl
                          have hfz48_0 := blk_frozen BK226.out 0
                          have hfz48_1 := blk_frozen BK226.out 1
                          have hfz48_2 := blk_frozen BK226.out 2
                          have hfz48_3 := blk_frozen BK226.out 3
                          have hfz48_4 := blk_frozen BK226.out 4
                          have hfz48_5 := blk_frozen BK226.out 5
                          have hfz48_6 := blk_frozen BK226.out 6
                          have hfz48_7 := blk_frozen BK226.out 7
                          go_wp2
                          refine bodyPost_ret (results_ct rfl _ _ gb226 33 #[.string (⟨#[]⟩ : ByteArray), .int .i64 0, .string (⟨#[]⟩ : ByteArray), .int .u8 0, .int .u8 0, .int .u8 0, .int .u8 0, .int .u64 0] (0, 0) _ rfl (by (with_reducible repeat (first | refine blk_drewN ?_ _ | refine blk_drew ?_ | refine blk_alloc ?_ _)); refine blk_put (cs := #[.string (⟨#[]⟩ : ByteArray), .int .i64 0, .string (⟨#[]⟩ : ByteArray), .int .u8 0, .int .u8 0, .int .u8 0, .int .u8 0, .int .u64 0]) ?_ 7 _ rfl; (with_reducible repeat (first | refine blk_drewN ?_ _ | refine blk_drew ?_ | refine blk_alloc ?_ _)); refine blk_put (cs := #[.string (⟨#[]⟩ : ByteArray), .int .i64 0, .string (⟨#[]⟩ : ByteArray), .int .u8 0, .int .u8 0, .int .u8 0, .int .u8 0, .int .u64 0]) ?_ 6 _ rfl; (with_reducible repeat (first | refine blk_drewN ?_ _ | refine blk_drew ?_ | refine blk_alloc ?_ _)); refine blk_put (cs := #[.string (⟨#[]⟩ : ByteArray), .int .i64 0, .string (⟨#[]⟩ : ByteArray), .int .u8 0, .int .u8 0, .int .u8 0, .int .u8 0, .int .u64 0]) ?_ 5 _ rfl; (with_reducible repeat (first | refine blk_drewN ?_ _ | refine blk_drew ?_ | refine blk_alloc ?_ _)); refine blk_put (cs := #[.string (⟨#[]⟩ : ByteArray), .int .i64 0, .string (⟨#[]⟩ : ByteArray), .int .u8 0, .int .u8 0, .int .u8 0, .int .u8 0, .int .u64 0]) ?_ 4 _ rfl; (with_reducible repeat (first | refine blk_drewN ?_ _ | refine blk_drew ?_ | refine blk_alloc ?_ _)); refine blk_put (cs := #[.string (⟨#[]⟩ : ByteArray), .int .i64 0, .string (⟨#[]⟩ : ByteArray), .int .u8 0, .int .u8 0, .int .u8 0, .int .u8 0, .int .u64 0]) ?_ 3 _ rfl; (with_reducible repeat (first | refine blk_drewN ?_ _ | refine blk_drew ?_ | refine blk_alloc ?_ _)); refine blk_put (cs := #[.string (⟨#[]⟩ : ByteArray), .int .i64 0, .string (⟨#[]⟩ : ByteArray), .int .u8 0, .int .u8 0, .int .u8 0, .int .u8 0, .int .u64 0]) ?_ 2 _ rfl; (with_reducible repeat (first | refine blk_drewN ?_ _ | refine blk_drew ?_ | refine blk_alloc ?_ _)); refine blk_put (cs := #[.string (⟨#[]⟩ : ByteArray), .int .i64 0, .string (⟨#[]⟩ : ByteArray), .int .u8 0, .int .u8 0, .int .u8 0, .int .u8 0, .int .u64 0]) ?_ 1 _ rfl; (with_reducible repeat (first | refine blk_drewN ?_ _ | refine blk_drew ?_ | refine blk_alloc ?_ _)); refine blk_put (cs := #[.string (⟨#[]⟩ : ByteArray), .int .i64 0, .string (⟨#[]⟩ : ByteArray), .int .u8 0, .int .u8 0, .int .u8 0, .int .u8 0, .int .u64 0]) ?_ 0 _ rfl; (with_reducible repeat (first | refine blk_drewN ?_ _ | refine blk_drew ?_ | refine blk_alloc ?_ _)); exact BK226.out) Tryd.underlying33 rfl (by kernel_rfl)) rfl ?_
                          exact ⟨by first | rfl | (simp [errW_none, errW_some] <;> rfl) | (simp [*, errW_none, errW_some] <;> rfl), by repeat (first | (with_reducible first | exact HB.out | apply below_alloc | apply pw_below_drewN | apply below_drew1 | refine below_set ?_ GE226.out | refine below_set ?_ GE236.out) | exact HB.out)⟩
                        · replace c46 := Bool.eq_false_iff.mpr c46
                          subst c46
                          have H1 : (if (wrap64 (bt t231 0)) < 3 then (some (((rd_T57 t230 0).f1), (wrap64 (bt t231 0)), (⟨#[]⟩ : ByteArray), 0, 0, 0, 0, 0, 0)) else (if 1 ≤ (t231.size : Int) then ((cornucopiaref1_Get.f kj24 (t231.extract 1 t231.size) (([1] : List Int))).bind fun bt241 => (if bt241.2.2 = 0 then (if 0 < (bt241.1.length : Int) then ((cornucopiaref17_Parse.f kj24 bt241.2.1).bind fun bt247 => (if bt247.2.2.2.2.2 = 0 then ((cornucopiaref20_ValidElem.f ((rd_T57 bt241.1 0).f1)).bind fun t254 => (if t254 = true then (some (((rd_T57 t230 0).f1), (wrap64 (bt t231 0)), (rd_T57 bt241.1 0).f1, bt247.1, bt247.2.1, bt247.2.2.1, bt247.2.2.2.1, bt247.2.2.2.2.1, 0)) else (some ((⟨#[]⟩ : ByteArray), 0, (⟨#[]⟩ : ByteArray), 0, 0, 0, 0, 0, 4)))) else (some ((⟨#[]⟩ : ByteArray), 0, (⟨#[]⟩ : ByteArray), 0, 0, 0, 0, 0, 4)))) else (none)) else (some ((⟨#[]⟩ : ByteArray), 0, (⟨#[]⟩ : ByteArray), 0, 0, 0, 0, 0, 4)))) else (none))) = some (r1, r2, r3, r4, r5, r6, r7, r8, r9) := by rw [if_neg (show ¬ (false = true) by decide)] at H; exact H
                          clear H
                          have H := H1
                          clear H1
                          by_cases c49 : (wrap64 (bt t231 0)) < 3
                          · rw [if_pos c49] at H
                            have c49b0 : decide ((wrap64 (bt t231 0)) < 3) = true := decide_eq_true c49
                            clear c49
                            simp only [Option.some.injEq, Prod.mk.injEq] at H
                            obtain ⟨rfl, rfl, rfl, rfl, rfl, rfl, rfl, rfl, rfl⟩ := H
                            have hnb50 := NB236_226.out
                            have hnc50 := NB226_236.out
                            have hcz51_0 : wc.cell? ⟨gb236, 0, none⟩ = some (.string ((rd_T57 t230 0).f1)) := (blk_cell BK236.out 0).trans rfl
                            have hcz51_1 : wc.cell? ⟨gb236, 1, none⟩ = some (.int .i64 (wrap64 (bt t231 0))) := (blk_cell BK236.out 1).trans rfl
                            have hcz51_2 : wc.cell? ⟨gb236, 2, none⟩ = some (.string (⟨#[]⟩ : ByteArray)) := (blk_cell BK236.out 2).trans rfl
                            have hcz51_3 : wc.cell? ⟨gb236, 3, none⟩ = some (.int .u8 0) := (blk_cell BK236.out 3).trans rfl
                            have hcz51_4 : wc.cell? ⟨gb236, 4, none⟩ = some (.int .u8 0) := (blk_cell BK236.out 4).trans rfl
                            have hcz51_5 : wc.cell? ⟨gb236, 5, none⟩ = some (.int .u8 0) := (blk_cell BK236.out 5).trans rfl
                            have hcz51_6 : wc.cell? ⟨gb236, 6, none⟩ = some (.int .u8 0) := (blk_cell BK236.out 6).trans rfl
                            have hcz51_7 : wc.cell? ⟨gb236, 7, none⟩ = some (.int .u64 0) := (blk_cell BK236.out 7).trans rfl
                            have hfz51_0 := blk_frozen BK236.out 0
                            have hfz51_1 := blk_frozen BK236.out 1
                            have hfz51_2 := blk_frozen BK236.out 2
                            have hfz51_3 := blk_frozen BK236.out 3
                            have hfz51_4 := blk_frozen BK236.out 4
                            have hfz51_5 := blk_frozen BK236.out 5
                            have hfz51_6 := blk_frozen BK236.out 6
                            have hfz51_7 := blk_frozen BK236.out 7
                            have hcz52_0 : wc.cell? ⟨gb226, 0, none⟩ = some (.string (⟨#[]⟩ : ByteArray)) := (blk_cell BK226.out 0).trans rfl
                            have hcz52_1 : wc.cell? ⟨gb226, 1, none⟩ = some (.int .i64 0) := (blk_cell BK226.out 1).trans rfl
                            have hcz52_2 : wc.cell? ⟨gb226, 2, none⟩ = some (.string (⟨#[]⟩ : ByteArray)) := (blk_cell BK226.out 2).trans rfl
                            have hcz52_3 : wc.cell? ⟨gb226, 3, none⟩ = some (.int .u8 0) := (blk_cell BK226.out 3).trans rfl
                            have hcz52_4 : wc.cell? ⟨gb226, 4, none⟩ = some (.int .u8 0) := (blk_cell BK226.out 4).trans rfl
                            have hcz52_5 : wc.cell? ⟨gb226, 5, none⟩ = some (.int .u8 0) := (blk_cell BK226.out 5).trans rfl
                            have hcz52_6 : wc.cell? ⟨gb226, 6, none⟩ = some (.int .u8 0) := (blk_cell BK226.out 6).trans rfl
                            have hcz52_7 : wc.cell? ⟨gb226, 7, none⟩ = some (.int .u64 0) := (blk_cell BK226.out 7).trans rfl
                            have hfz52_0 := blk_frozen BK226.out 0
                            have hfz52_1 := blk_frozen BK226.out 1
                            have hfz52_2 := blk_frozen BK226.out 2
                            have hfz52_3 := blk_frozen BK226.out 3
                            have hfz52_4 := blk_frozen BK226.out 4
                            have hfz52_5 := blk_frozen BK226.out 5
                            have hfz52_6 := blk_frozen BK226.out 6
                            have hfz52_7 := blk_frozen BK226.out 7
                            go_wp2
                            refine bodyPost_ret (results_ct rfl _ _ gb226 33 #[.string ((rd_T57 t230 0).f1), .int .i64 (wrap64 (bt t231 0)), .string (⟨#[]⟩ : ByteArray), .int .u8 0, .int .u8 0, .int .u8 0, .int .u8 0, .int .u64 0] (0, 0) _ rfl (by (with_reducible repeat (first | refine blk_drewN ?_ _ | refine blk_drew ?_ | refine blk_alloc ?_ _)); refine blk_put (cs := #[.string ((rd_T57 t230 0).f1), .int .i64 (wrap64 (bt t231 0)), .string (⟨#[]⟩ : ByteArray), .int .u8 0, .int .u8 0, .int .u8 0, .int .u8 0, .int .u64 0]) ?_ 7 _ rfl; (with_reducible repeat (first | refine blk_drewN ?_ _ | refine blk_drew ?_ | refine blk_alloc ?_ _)); refine blk_put (cs := #[.string ((rd_T57 t230 0).f1), .int .i64 (wrap64 (bt t231 0)), .string (⟨#[]⟩ : ByteArray), .int .u8 0, .int .u8 0, .int .u8 0, .int .u8 0, .int .u64 0]) ?_ 6 _ rfl; (with_reducible repeat (first | refine blk_drewN ?_ _ | refine blk_drew ?_ | refine blk_alloc ?_ _)); refine blk_put (cs := #[.string ((rd_T57 t230 0).f1), .int .i64 (wrap64 (bt t231 0)), .string (⟨#[]⟩ : ByteArray), .int .u8 0, .int .u8 0, .int .u8 0, .int .u8 0, .int .u64 0]) ?_ 5 _ rfl; (with_reducible repeat (first | refine blk_drewN ?_ _ | refine blk_drew ?_ | refine blk_alloc ?_ _)); refine blk_put (cs := #[.string ((rd_T57 t230 0).f1), .int .i64 (wrap64 (bt t231 0)), .string (⟨#[]⟩ : ByteArray), .int .u8 0, .int .u8 0, .int .u8 0, .int .u8 0, .int .u64 0]) ?_ 4 _ rfl; (with_reducible repeat (first | refine blk_drewN ?_ _ | refine blk_drew ?_ | refine blk_alloc ?_ _)); refine blk_put (cs := #[.string ((rd_T57 t230 0).f1), .int .i64 (wrap64 (bt t231 0)), .string (⟨#[]⟩ : ByteArray), .int .u8 0, .int .u8 0, .int .u8 0, .int .u8 0, .int .u64 0]) ?_ 3 _ rfl; (with_reducible repeat (first | refine blk_drewN ?_ _ | refine blk_drew ?_ | refine blk_alloc ?_ _)); refine blk_put (cs := #[.string ((rd_T57 t230 0).f1), .int .i64 (wrap64 (bt t231 0)), .string (⟨#[]⟩ : ByteArray), .int .u8 0, .int .u8 0, .int .u8 0, .int .u8 0, .int .u64 0]) ?_ 2 _ rfl; (with_reducible repeat (first | refine blk_drewN ?_ _ | refine blk_drew ?_ | refine blk_alloc ?_ _)); refine blk_put (cs := #[.string ((rd_T57 t230 0).f1), .int .i64 0, .string (⟨#[]⟩ : ByteArray), .int .u8 0, .int .u8 0, .int .u8 0, .int .u8 0, .int .u64 0]) ?_ 1 _ rfl; (with_reducible repeat (first | refine blk_drewN ?_ _ | refine blk_drew ?_ | refine blk_alloc ?_ _)); refine blk_put (cs := #[.string (⟨#[]⟩ : ByteArray), .int .i64 0, .string (⟨#[]⟩ : ByteArray), .int .u8 0, .int .u8 0, .int .u8 0, .int .u8 0, .int .u64 0]) ?_ 0 _ rfl; (with_reducible repeat (first | refine blk_drewN ?_ _ | refine blk_drew ?_ | refine blk_alloc ?_ _)); exact BK226.out) Tryd.underlying33 rfl (by kernel_rfl)) rfl ?_
                            exact ⟨by first | rfl | (simp [errW_none, errW_some] <;> rfl) | (simp [*, errW_none, errW_some] <;> rfl), by repeat (first | (with_reducible first | exact HB.out | apply below_alloc | apply pw_below_drewN | apply below_drew1 | refine below_set ?_ GE226.out | refine below_set ?_ GE236.out) | exact HB.out)⟩
                          · rw [if_neg c49] at H
                            have c49b0 : decide ((wrap64 (bt t231 0)) < 3) = false := decide_eq_false c49
                            clear c49
                            by_cases c53 : 1 ≤ (t231.size : Int)
                            · rw [if_pos c53] at H
                              have c53b0 := eq_true c53
                              have c53b1 : decide (1 ≤ (t231.size : Int)) = true := decide_eq_true c53
                              clear c53
                              obtain ⟨y238, hy238⟩ : ∃ y_ : List Int, y_ = (([1] : List Int)) := ⟨_, rfl⟩
                              replace H : ((cornucopiaref1_Get.f kj24 (t231.extract 1 t231.size) y238).bind fun bt241 => (if bt241.2.2 = 0 then (if 0 < (bt241.1.length : Int) then ((cornucopiaref17_Parse.f kj24 bt241.2.1).bind fun bt247 => (if bt247.2.2.2.2.2 = 0 then ((cornucopiaref20_ValidElem.f ((rd_T57 bt241.1 0).f1)).bind fun t254 => (if t254 = true then (some (((rd_T57 t230 0).f1), (wrap64 (bt t231 0)), (rd_T57 bt241.1 0).f1, bt247.1, bt247.2.1, bt247.2.2.1, bt247.2.2.2.1, bt247.2.2.2.2.1, 0)) else (some ((⟨#[]⟩ : ByteArray), 0, (⟨#[]⟩ : ByteArray), 0, 0, 0, 0, 0, 4)))) else (some ((⟨#[]⟩ : ByteArray), 0, (⟨#[]⟩ : ByteArray), 0, 0, 0, 0, 0, 4)))) else (none)) else (some ((⟨#[]⟩ : ByteArray), 0, (⟨#[]⟩ : ByteArray), 0, 0, 0, 0, 0, 4)))) = some (r1, r2, r3, r4, r5, r6, r7, r8, r9) := by first | (rw [hy238]; with_reducible exact H) | (have H2_ := (Option.bind_some _ _).symm.trans H; rw [hy238]; with_reducible exact H2_) | (have H2_ := (Option.bind_some _ _).symm.trans H; with_reducible exact H2_) | with_reducible exact H | (rw [hy238]; exact H) | exact H
                              have Ny238 := Aside0.mk hy238
                              clear hy238
                              replace H := Option.bind_eq_some_iff.mp H
                              obtain ⟨⟨t241, t242, t243⟩, A540, H⟩ := H
                              replace H : (if t243 = 0 then (if 0 < (t241.length : Int) then ((cornucopiaref17_Parse.f kj24 t242).bind fun bt247 => (if bt247.2.2.2.2.2 = 0 then ((cornucopiaref20_ValidElem.f ((rd_T57 t241 0).f1)).bind fun t254 => (if t254 = true then (some (((rd_T57 t230 0).f1), (wrap64 (bt t231 0)), (rd_T57 t241 0).f1, bt247.1, bt247.2.1, bt247.2.2.1, bt247.2.2.2.1, bt247.2.2.2.2.1, 0)) else (some ((⟨#[]⟩ : ByteArray), 0, (⟨#[]⟩ : ByteArray), 0, 0, 0, 0, 0, 4)))) else (some ((⟨#[]⟩ : ByteArray), 0, (⟨#[]⟩ : ByteArray), 0, 0, 0, 0, 0, 4)))) else (none)) else (some ((⟨#[]⟩ : ByteArray), 0, (⟨#[]⟩ : ByteArray), 0, 0, 0, 0, 0, 4))) = some (r1, r2, r3, r4, r5, r6, r7, r8, r9) := H
                              have A54 := Aside0.mk A540
                              clear A540
                              by_cases c55 : t243 = 0
                              · rw [if_pos c55] at H
                                have c55b0 : (t243 == 0) = true := beq_iff_eq.mpr c55
                                have c55b1 : (t243 != 0) = false := bne_eq_false_iff_eq.mpr c55
                                clear c55
                                by_cases c56 : 0 < (t241.length : Int)
                                · rw [if_pos c56] at H
                                  have c56b0 : decide (0 < (t241.length : Int)) = true := decide_eq_true c56
                                  have c56b1 : decide (0 < t241.length) = true := decide_eq_true (by omega)
                                  clear c56
                                  replace H := Option.bind_eq_some_iff.mp H
                                  obtain ⟨⟨t247, t248, t249, t250, t251, t252⟩, A570, H⟩ := H
                                  replace H : (if t252 = 0 then ((cornucopiaref20_ValidElem.f ((rd_T57 t241 0).f1)).bind fun t254 => (if t254 = true then (some (((rd_T57 t230 0).f1), (wrap64 (bt t231 0)), (rd_T57 t241 0).f1, t247, t248, t249, t250, t251, 0)) else (some ((⟨#[]⟩ : ByteArray), 0, (⟨#[]⟩ : ByteArray), 0, 0, 0, 0, 0, 4)))) else (some ((⟨#[]⟩ : ByteArray), 0, (⟨#[]⟩ : ByteArray), 0, 0, 0, 0, 0, 4))) = some (r1, r2, r3, r4, r5, r6, r7, r8, r9) := H
                                  have A57 := Aside0.mk A570
                                  clear A570
                                  by_cases c58 : t252 = 0
                                  · rw [if_pos c58] at H
                                    have c58b0 : (t252 == 0) = true := beq_iff_eq.mpr c58
                                    have c58b1 : (t252 != 0) = false := bne_eq_false_iff_eq.mpr c58
                                    clear c58
                                    replace H := Option.bind_eq_some_iff.mp H
                                    obtain ⟨t254, A590, H⟩ := H
                                    replace H : (if t254 = true then (some (((rd_T57 t230 0).f1), (wrap64 (bt t231 0)), (rd_T57 t241 0).f1, t247, t248, t249, t250, t251, 0)) else (some ((⟨#[]⟩ : ByteArray), 0, (⟨#[]⟩ : ByteArray), 0, 0, 0, 0, 0, 4))) = some (r1, r2, r3, r4, r5, r6, r7, r8, r9) := H
                                    have A59 := Aside0.mk A590
                                    clear A590
                                    by_cases c60 : t254 = true
                                    · subst c60
                                      have H1 : (some (((rd_T57 t230 0).f1), (wrap64 (bt t231 0)), (rd_T57 t241 0).f1, t247, t248, t249, t250, t251, 0)) = some (r1, r2, r3, r4, r5, r6, r7, r8, r9) := by rw [if_pos rfl] at H; exact H
                                      clear H
                                      have H := H1
                                      clear H1
                                      simp only [Option.some.injEq, Prod.mk.injEq] at H
                                      obtain ⟨rfl, rfl, rfl, rfl, rfl, rfl, rfl, rfl, rfl⟩ := H
                                      have hnb61 := NB236_226.out
                                      have hnc61 := NB226_236.out
                                      have hcz62_0 : wc.cell? ⟨gb236, 0, none⟩ = some (.string ((rd_T57 t230 0).f1)) := (blk_cell BK236.out 0).trans rfl
                                      have hcz62_1 : wc.cell? ⟨gb236, 1, none⟩ = some (.int .i64 (wrap64 (bt t231 0))) := (blk_cell BK236.out 1).trans rfl
                                      have hcz62_2 : wc.cell? ⟨gb236, 2, none⟩ = some (.string (⟨#[]⟩ : ByteArray)) := (blk_cell BK236.out 2).trans rfl
                                      have hcz62_3 : wc.cell? ⟨gb236, 3, none⟩ = some (.int .u8 0) := (blk_cell BK236.out 3).trans rfl
                                      have hcz62_4 : wc.cell? ⟨gb236, 4, none⟩ = some (.int .u8 0) := (blk_cell BK236.out 4).trans rfl
                                      have hcz62_5 : wc.cell? ⟨gb236, 5, none⟩ = some (.int .u8 0) := (blk_cell BK236.out 5).trans rfl
                                      have hcz62_6 : wc.cell? ⟨gb236, 6, none⟩ = some (.int .u8 0) := (blk_cell BK236.out 6).trans rfl
                                      have hcz62_7 : wc.cell? ⟨gb236, 7, none⟩ = some (.int .u64 0) := (blk_cell BK236.out 7).trans rfl
                                      have hfz62_0 := blk_frozen BK236.out 0
                                      have hfz62_1 := blk_frozen BK236.out 1
                                      have hfz62_2 := blk_frozen BK236.out 2
                                      have hfz62_3 := blk_frozen BK236.out 3
                                      have hfz62_4 := blk_frozen BK236.out 4
                                      have hfz62_5 := blk_frozen BK236.out 5
                                      have hfz62_6 := blk_frozen BK236.out 6
                                      have hfz62_7 := blk_frozen BK236.out 7
                                      go_wp2_with (first | ((with_reducible refine gate_dst (N := 67) rfl ?_); (try (refine gate_guard (by rfl) ?_; dsimp only)); refine Kd.R_lit (Kd.int .i64) _ 3 ?hg (N := 67) ?hd (xs := ([1] : List Int)) (inner := [.int .i64 1]) (ok := fun _ => True) (okp := fun _ => True) ?hr ?hp (fun _ hk => hk) trivial (Below.refl _ _) (Nat.le_refl _) (by simp) ?_; (case hd => rfl); (case hg => rfl); (case hr => first | (go_simp; done) | (go_simp; rfl)); (case hp => exact (Reps.one (show Kd.M (Kd.int .i64) _ _ _ 1 [.int .i64 1] from rfl) (Reps.none _ _))); intro v239 w63 ho64 hb hg_ hnew_; clear hg_ hnew_; (first | rw [← Ny238.out] at ho64 | (simp only [Int.reduceToNat] at ho64; rw [← Ny238.out] at ho64)); have n0_ := Aside0.mk (Kd.R_lower ho64 (below_size (by repeat (first | (with_reducible first | exact HB.out | apply below_alloc | apply pw_below_drewN | apply below_drew1 | refine below_set ?_ GE226.out | refine below_set ?_ GE236.out) | exact HB.out)))); have n1_ := Aside0.mk (blk_below (g := gb226) (o := .cells #[.string (⟨#[]⟩ : ByteArray), .int .i64 0, .string (⟨#[]⟩ : ByteArray), .int .u8 0, .int .u8 0, .int .u8 0, .int .u8 0, .int .u64 0] 33 (0, 0)) (by (with_reducible repeat (first | refine blk_drewN ?_ _ | refine blk_drew ?_ | refine blk_alloc ?_ _)); exact BK226.out) hb); have n2_ := Aside0.mk (blk_below (g := gb236) (o := .cells #[.string ((rd_T57 t230 0).f1), .int .i64 (wrap64 (bt t231 0)), .string (⟨#[]⟩ : ByteArray), .int .u8 0, .int .u8 0, .int .u8 0, .int .u8 0, .int .u64 0] 33 (0, 0)) (by (with_reducible repeat (first | refine blk_drewN ?_ _ | refine blk_drew ?_ | refine blk_alloc ?_ _)); exact BK236.out) hb); have n3_ := Aside0.mk (below_step (by repeat (first | (with_reducible first | exact HB.out | apply below_alloc | apply pw_below_drewN | apply below_drew1 | refine below_set ?_ GE226.out | refine below_set ?_ GE236.out) | exact HB.out)) hb); clear BK226; clear BK236; clear HB; have HO240 := n0_; have BK226 := n1_; have BK236 := n2_; have HB := n3_; clear n0_ n1_ n2_ n3_; clear hb ho64; obtain ⟨Ao65, co65, eo65⟩ := Kd.R_slice HO240.out; subst eo65) | ((with_reducible refine gate_callee (f := 24) rfl ?_); refine goesL_ (some 68) rfl rfl Tryd.func24 (by kernel_rfl) rfl #[.string (t231.extract 1 t231.size), .slice Ao65 y238.length co65] rfl (by (try simp only [List.map_toArray, List.map_cons, List.map_nil]); first | done | rfl | (simp only [List.length_drop, List.length_take]; rfl)) ?_; (with_reducible refine (cornucopiaref1_Get.calls kj24 (t231.extract 1 t231.size) _ _ y238 t241 t242 t243 _ ?side1 ?side2 A54.out).mono ?_); (case side1 => repeat (first | exact (Kd.R_reads' HO240.out).2.2 | (with_reducible refine Kd.C_alloc ?_ _) | (with_reducible refine Kd.C_drewN ?_ _) | (with_reducible refine Kd.C_drew ?_))); (case side2 => exact (Kd.R_reads' HO240.out).2.1); rintro e w66 ⟨v244, rfl, ho0, hb⟩; refine ⟨_, rfl, ?_⟩; have n0_ := Aside0.mk (Kd.R_below (by (with_reducible repeat (first | apply Kd.R_alloc | apply Kd.R_drewN | apply Kd.R_drew)); exact HO240.out) hb); have n1_ := Aside0.mk (Kd.R_lower ho0 (below_size (by repeat (first | (with_reducible first | exact HB.out | apply below_alloc | apply pw_below_drewN | apply below_drew1 | refine below_set ?_ GE226.out | refine below_set ?_ GE236.out) | exact HB.out)))); have n2_ := Aside0.mk (blk_below (g := gb226) (o := .cells #[.string (⟨#[]⟩ : ByteArray), .int .i64 0, .string (⟨#[]⟩ : ByteArray), .int .u8 0, .int .u8 0, .int .u8 0, .int .u8 0, .int .u64 0] 33 (0, 0)) (by (with_reducible repeat (first | refine blk_drewN ?_ _ | refine blk_drew ?_ | refine blk_alloc ?_ _)); exact BK226.out) hb); have n3_ := Aside0.mk (blk_below (g := gb236) (o := .cells #[.string ((rd_T57 t230 0).f1), .int .i64 (wrap64 (bt t231 0)), .string (⟨#[]⟩ : ByteArray), .int .u8 0, .int .u8 0, .int .u8 0, .int .u8 0, .int .u64 0] 33 (0, 0)) (by (with_reducible repeat (first | refine blk_drewN ?_ _ | refine blk_drew ?_ | refine blk_alloc ?_ _)); exact BK236.out) hb); have n4_ := Aside0.mk (below_step (by repeat (first | (with_reducible first | exact HB.out | apply below_alloc | apply pw_below_drewN | apply below_drew1 | refine below_set ?_ GE226.out | refine below_set ?_ GE236.out) | exact HB.out)) hb); clear HO240; clear BK226; clear BK236; clear HB; have HO240 := n0_; have HO245 := n1_; have BK226 := n2_; have BK236 := n3_; have HB := n4_; clear n0_ n1_ n2_ n3_ n4_; (try clear hb); (try clear hb2); (try clear hk); (try clear hi); (try clear ho0); obtain ⟨Ao67, co67, eo67⟩ := Kd.R_slice HO245.out; subst eo67; have p246 : 0 ≤ (0 : Int) := (by omega); have q246 : 0 < (t241.length : Int) := of_decide_eq_true (by first | (with_reducible assumption) | assumption); obtain ⟨ad246, e246, hx246_0, hx246_1, hx246_2, hx246_3⟩ := at_T57 (Kd.R_reads' HO245.out).2.2 0 p246 q246; cases e246; have qi246 : (0 < t241.length) = True := eq_true (by omega); (try rw [show ((0 : Int)).toNat = 0 from rfl] at hx246_0); (try rw [show 0 * 4 = 0 from rfl] at hx246_0); (try rw [Addr.add_zero'] at hx246_0); (try rw [show ((0 : Int)).toNat = 0 from rfl] at hx246_1); (try rw [show 0 * 4 = 0 from rfl] at hx246_1); (try rw [Addr.add_zero'] at hx246_1); (try rw [show ((0 : Int)).toNat = 0 from rfl] at hx246_2); (try rw [show 0 * 4 = 0 from rfl] at hx246_2); (try rw [Addr.add_zero'] at hx246_2); (try rw [show ((0 : Int)).toNat = 0 from rfl] at hx246_3); (try rw [show 0 * 4 = 0 from rfl] at hx246_3); (try rw [Addr.add_zero'] at hx246_3); replace p246 := eq_true p246; replace q246 := eq_true q246; have hcz68_0 : w66.cell? ⟨gb236, 0, none⟩ = some (.string ((rd_T57 t230 0).f1)) := (blk_cell BK236.out 0).trans rfl; have hcz68_1 : w66.cell? ⟨gb236, 1, none⟩ = some (.int .i64 (wrap64 (bt t231 0))) := (blk_cell BK236.out 1).trans rfl; have hcz68_2 : w66.cell? ⟨gb236, 2, none⟩ = some (.string (⟨#[]⟩ : ByteArray)) := (blk_cell BK236.out 2).trans rfl; have hcz68_3 : w66.cell? ⟨gb236, 3, none⟩ = some (.int .u8 0) := (blk_cell BK236.out 3).trans rfl; have hcz68_4 : w66.cell? ⟨gb236, 4, none⟩ = some (.int .u8 0) := (blk_cell BK236.out 4).trans rfl; have hcz68_5 : w66.cell? ⟨gb236, 5, none⟩ = some (.int .u8 0) := (blk_cell BK236.out 5).trans rfl; have hcz68_6 : w66.cell? ⟨gb236, 6, none⟩ = some (.int .u8 0) := (blk_cell BK236.out 6).trans rfl; have hcz68_7 : w66.cell? ⟨gb236, 7, none⟩ = some (.int .u64 0) := (blk_cell BK236.out 7).trans rfl; have hfz68_0 := blk_frozen BK236.out 0; have hfz68_1 := blk_frozen BK236.out 1; have hfz68_2 := blk_frozen BK236.out 2; have hfz68_3 := blk_frozen BK236.out 3; have hfz68_4 := blk_frozen BK236.out 4; have hfz68_5 := blk_frozen BK236.out 5; have hfz68_6 := blk_frozen BK236.out 6; have hfz68_7 := blk_frozen BK236.out 7) | ((with_reducible refine gate_callee (f := 25) rfl ?_); refine goesL_ (some 82) rfl rfl Tryd.func25 (by kernel_rfl) rfl #[.string t242] rfl (by (try simp only [List.map_toArray, List.map_cons, List.map_nil]); first | done | rfl | (simp only [List.length_drop, List.length_take]; rfl)) ?_; (with_reducible refine (cornucopiaref17_Parse.calls kj24 t242 t247 t248 t249 t250 t251 t252 _ A57.out).mono ?_); rintro e w69 ⟨rfl, hb⟩; refine ⟨_, rfl, ?_⟩; have n0_ := Aside0.mk (Kd.R_below (by (with_reducible repeat (first | apply Kd.R_alloc | apply Kd.R_drewN | apply Kd.R_drew)); exact (Kd.R_mono (Kd.R_far (p := ⟨gb236, 2, none⟩) (Kd.R_types HO240.out BK236.out (by decide)) (fun _ hk => hk.2) (.string ((rd_T57 t241 0).f1))) (fun _ h_ => h_.1))) hb); have n1_ := Aside0.mk (Kd.R_below (by (with_reducible repeat (first | apply Kd.R_alloc | apply Kd.R_drewN | apply Kd.R_drew)); exact (Kd.R_mono (Kd.R_far (p := ⟨gb236, 2, none⟩) (Kd.R_types HO245.out BK236.out (by decide)) (fun _ hk => hk.2) (.string ((rd_T57 t241 0).f1))) (fun _ h_ => h_.1))) hb); have n2_ := Aside0.mk (blk_below (g := gb226) (o := .cells #[.string (⟨#[]⟩ : ByteArray), .int .i64 0, .string (⟨#[]⟩ : ByteArray), .int .u8 0, .int .u8 0, .int .u8 0, .int .u8 0, .int .u64 0] 33 (0, 0)) (by (with_reducible repeat (first | refine blk_drewN ?_ _ | refine blk_drew ?_ | refine blk_alloc ?_ _)); refine blk_far ?_ NB226_236.out _; (with_reducible repeat (first | refine blk_drewN ?_ _ | refine blk_drew ?_ | refine blk_alloc ?_ _)); exact BK226.out) hb); have n3_ := Aside0.mk (blk_below (g := gb236) (o := .cells #[.string ((rd_T57 t230 0).f1), .int .i64 (wrap64 (bt t231 0)), .string ((rd_T57 t241 0).f1), .int .u8 0, .int .u8 0, .int .u8 0, .int .u8 0, .int .u64 0] 33 (0, 0)) (by (with_reducible repeat (first | refine blk_drewN ?_ _ | refine blk_drew ?_ | refine blk_alloc ?_ _)); refine blk_put (cs := #[.string ((rd_T57 t230 0).f1), .int .i64 (wrap64 (bt t231 0)), .string (⟨#[]⟩ : ByteArray), .int .u8 0, .int .u8 0, .int .u8 0, .int .u8 0, .int .u64 0]) ?_ 2 _ rfl; (with_reducible repeat (first | refine blk_drewN ?_ _ | refine blk_drew ?_ | refine blk_alloc ?_ _)); exact BK236.out) hb); have n4_ := Aside0.mk (below_step (by repeat (first | (with_reducible first | exact HB.out | apply below_alloc | apply pw_below_drewN | apply below_drew1 | refine below_set ?_ GE226.out | refine below_set ?_ GE236.out) | exact HB.out)) hb); clear HO240; clear HO245; clear BK226; clear BK236; clear HB; have HO240 := n0_; have HO245 := n1_; have BK226 := n2_; have BK236 := n3_; have HB := n4_; clear n0_ n1_ n2_ n3_ n4_; (try clear hb); (try clear hb2); (try clear hk); (try clear hi)) | ((with_reducible refine gate_dst (N := 8) rfl ?_); (try (refine gate_guard (by rfl) ?_; dsimp only)); refine box_event ?hg (N := 8) ?hd (cs := #[.int .u8 0, .int .u8 0, .int .u8 0, .int .u8 0, .int .u64 0]) (t := 26) ?hr ?_; (case hd => rfl); (case hg => rfl); (case hr => first | (go_simp; done) | (go_simp; rfl)); intro gb253 hg w70 hbox hb; have n0_ := Aside0.mk (Kd.R_below (by (with_reducible repeat (first | apply Kd.R_alloc | apply Kd.R_drewN | apply Kd.R_drew)); exact HO240.out) hb); have n1_ := Aside0.mk (Kd.R_below (by (with_reducible repeat (first | apply Kd.R_alloc | apply Kd.R_drewN | apply Kd.R_drew)); exact HO245.out) hb); have n2_ := Aside0.mk (blk_below (g := gb226) (o := .cells #[.string (⟨#[]⟩ : ByteArray), .int .i64 0, .string (⟨#[]⟩ : ByteArray), .int .u8 0, .int .u8 0, .int .u8 0, .int .u8 0, .int .u64 0] 33 (0, 0)) (by (with_reducible repeat (first | refine blk_drewN ?_ _ | refine blk_drew ?_ | refine blk_alloc ?_ _)); exact BK226.out) hb); have n3_ := Aside0.mk (blk_below (g := gb236) (o := .cells #[.string ((rd_T57 t230 0).f1), .int .i64 (wrap64 (bt t231 0)), .string ((rd_T57 t241 0).f1), .int .u8 0, .int .u8 0, .int .u8 0, .int .u8 0, .int .u64 0] 33 (0, 0)) (by (with_reducible repeat (first | refine blk_drewN ?_ _ | refine blk_drew ?_ | refine blk_alloc ?_ _)); exact BK236.out) hb); have n4_ := Aside0.mk (below_step (by repeat (first | (with_reducible first | exact HB.out | apply below_alloc | apply pw_below_drewN | apply below_drew1 | refine below_set ?_ GE226.out | refine below_set ?_ GE236.out) | exact HB.out)) hb); have n5_ := Aside0.mk (hbox); have n6_ := Aside0.mk ((by rw [hg]; exact (below_size (by repeat (first | (with_reducible first | exact HB.out | apply below_alloc | apply pw_below_drewN | apply below_drew1 | refine below_set ?_ GE226.out | refine below_set ?_ GE236.out) | exact HB.out))) : w.heap.size ≤ gb253)); have n7_ := Aside0.mk ((by rw [hg]; exact (below_size (by repeat (first | (with_reducible first | exact HB.out | apply below_alloc | apply pw_below_drewN | apply below_drew1 | refine below_set ?_ GE226.out | refine below_set ?_ GE236.out) | exact HB.out))) : w.heap.size ≤ gb253)); have n8_ := Aside0.mk ((by rw [hg]; exact Nat.ne_of_lt (blk_lt (g := gb226) (o := .cells #[.string (⟨#[]⟩ : ByteArray), .int .i64 0, .string (⟨#[]⟩ : ByteArray), .int .u8 0, .int .u8 0, .int .u8 0, .int .u8 0, .int .u64 0] 33 (0, 0)) (by (with_reducible repeat (first | refine blk_drewN ?_ _ | refine blk_drew ?_ | refine blk_alloc ?_ _)); exact BK226.out)) : gb226 ≠ gb253)); have n9_ := Aside0.mk ((by rw [hg]; exact Nat.ne_of_gt (blk_lt (g := gb226) (o := .cells #[.string (⟨#[]⟩ : ByteArray), .int .i64 0, .string (⟨#[]⟩ : ByteArray), .int .u8 0, .int .u8 0, .int .u8 0, .int .u8 0, .int .u64 0] 33 (0, 0)) (by (with_reducible repeat (first | refine blk_drewN ?_ _ | refine blk_drew ?_ | refine blk_alloc ?_ _)); exact BK226.out)) : gb253 ≠ gb226)); have n10_ := Aside0.mk ((by rw [hg]; exact Nat.ne_of_lt (blk_lt (g := gb236) (o := .cells #[.string ((rd_T57 t230 0).f1), .int .i64 (wrap64 (bt t231 0)), .string ((rd_T57 t241 0).f1), .int .u8 0, .int .u8 0, .int .u8 0, .int .u8 0, .int .u64 0] 33 (0, 0)) (by (with_reducible repeat (first | refine blk_drewN ?_ _ | refine blk_drew ?_ | refine blk_alloc ?_ _)); exact BK236.out)) : gb236 ≠ gb253)); have n11_ := Aside0.mk ((by rw [hg]; exact Nat.ne_of_gt (blk_lt (g := gb236) (o := .cells #[.string ((rd_T57 t230 0).f1), .int .i64 (wrap64 (bt t231 0)), .string ((rd_T57 t241 0).f1), .int .u8 0, .int .u8 0, .int .u8 0, .int .u8 0, .int .u64 0] 33 (0, 0)) (by (with_reducible repeat (first | refine blk_drewN ?_ _ | refine blk_drew ?_ | refine blk_alloc ?_ _)); exact BK236.out)) : gb253 ≠ gb236)); clear HO240; clear HO245; clear BK226; clear BK236; clear HB; have HO240 := n0_; have HO245 := n1_; have BK226 := n2_; have BK236 := n3_; have HB := n4_; have BK253 := n5_; have GW253 := n6_; have GE253 := n7_; have NB226_253 := n8_; have NB253_226 := n9_; have NB236_253 := n10_; have NB253_236 := n11_; clear n0_ n1_ n2_ n3_ n4_ n5_ n6_ n7_ n8_ n9_ n10_ n11_; clear hb hbox hg; have hnb71 := NB253_226.out; have hnc71 := NB226_253.out; have hnb72 := NB253_236.out; have hnc72 := NB236_253.out; have hcz73_0 : w70.cell? ⟨gb253, 0, none⟩ = some (.int .u8 0) := (blk_cell BK253.out 0).trans rfl; have hcz73_1 : w70.cell? ⟨gb253, 1, none⟩ = some (.int .u8 0) := (blk_cell BK253.out 1).trans rfl; have hcz73_2 : w70.cell? ⟨gb253, 2, none⟩ = some (.int .u8 0) := (blk_cell BK253.out 2).trans rfl; have hcz73_3 : w70.cell? ⟨gb253, 3, none⟩ = some (.int .u8 0) := (blk_cell BK253.out 3).trans rfl; have hcz73_4 : w70.cell? ⟨gb253, 4, none⟩ = some (.int .u64 0) := (blk_cell BK253.out 4).trans rfl; have hfz73_0 := blk_frozen BK253.out 0; have hfz73_1 := blk_frozen BK253.out 1; have hfz73_2 := blk_frozen BK253.out 2; have hfz73_3 := blk_frozen BK253.out 3; have hfz73_4 := blk_frozen BK253.out 4; have hcz74_0 : w70.cell? ⟨gb236, 0, none⟩ = some (.string ((rd_T57 t230 0).f1)) := (blk_cell BK236.out 0).trans rfl; have hcz74_1 : w70.cell? ⟨gb236, 1, none⟩ = some (.int .i64 (wrap64 (bt t231 0))) := (blk_cell BK236.out 1).trans rfl; have hcz74_2 : w70.cell? ⟨gb236, 2, none⟩ = some (.string ((rd_T57 t241 0).f1)) := (blk_cell BK236.out 2).trans rfl; have hcz74_3 : w70.cell? ⟨gb236, 3, none⟩ = some (.int .u8 0) := (blk_cell BK236.out 3).trans rfl; have hcz74_4 : w70.cell? ⟨gb236, 4, none⟩ = some (.int .u8 0) := (blk_cell BK236.out 4).trans rfl; have hcz74_5 : w70.cell? ⟨gb236, 5, none⟩ = some (.int .u8 0) := (blk_cell BK236.out 5).trans rfl; have hcz74_6 : w70.cell? ⟨gb236, 6, none⟩ = some (.int .u8 0) := (blk_cell BK236.out 6).trans rfl; have hcz74_7 : w70.cell? ⟨gb236, 7, none⟩ = some (.int .u64 0) := (blk_cell BK236.out 7).trans rfl; have hfz74_0 := blk_frozen BK236.out 0; have hfz74_1 := blk_frozen BK236.out 1; have hfz74_2 := blk_frozen BK236.out 2; have hfz74_3 := blk_frozen BK236.out 3; have hfz74_4 := blk_frozen BK236.out 4; have hfz74_5 := blk_frozen BK236.out 5; have hfz74_6 := blk_frozen BK236.out 6; have hfz74_7 := blk_frozen BK236.out 7) | (go_at_call 20; (with_reducible refine (cornucopiaref20_ValidElem.calls ((rd_T57 t241 0).f1) true _ A59.out).mono ?_); rintro e w' ⟨rfl, ⟨nd, rfl⟩⟩; have hcz75_0 : w70.cell? ⟨gb226, 0, none⟩ = some (.string (⟨#[]⟩ : ByteArray)) := (blk_cell BK226.out 0).trans rfl; have hcz75_1 : w70.cell? ⟨gb226, 1, none⟩ = some (.int .i64 0) := (blk_cell BK226.out 1).trans rfl; have hcz75_2 : w70.cell? ⟨gb226, 2, none⟩ = some (.string (⟨#[]⟩ : ByteArray)) := (blk_cell BK226.out 2).trans rfl; have hcz75_3 : w70.cell? ⟨gb226, 3, none⟩ = some (.int .u8 0) := (blk_cell BK226.out 3).trans rfl; have hcz75_4 : w70.cell? ⟨gb226, 4, none⟩ = some (.int .u8 0) := (blk_cell BK226.out 4).trans rfl; have hcz75_5 : w70.cell? ⟨gb226, 5, none⟩ = some (.int .u8 0) := (blk_cell BK226.out 5).trans rfl; have hcz75_6 : w70.cell? ⟨gb226, 6, none⟩ = some (.int .u8 0) := (blk_cell BK226.out 6).trans rfl; have hcz75_7 : w70.cell? ⟨gb226, 7, none⟩ = some (.int .u64 0) := (blk_cell BK226.out 7).trans rfl; have hfz75_0 := blk_frozen BK226.out 0; have hfz75_1 := blk_frozen BK226.out 1; have hfz75_2 := blk_frozen BK226.out 2; have hfz75_3 := blk_frozen BK226.out 3; have hfz75_4 := blk_frozen BK226.out 4; have hfz75_5 := blk_frozen BK226.out 5; have hfz75_6 := blk_frozen BK226.out 6; have hfz75_7 := blk_frozen BK226.out 7))
                                      refine bodyPost_ret (results_ct rfl _ _ gb226 33 #[.string ((rd_T57 t230 0).f1), .int .i64 (wrap64 (bt t231 0)), .string ((rd_T57 t241 0).f1), .int .u8 t247, .int .u8 t248, .int .u8 t249, .int .u8 t250, .int .u64 t251] (0, 0) _ rfl (by (with_reducible repeat (first | refine blk_drewN ?_ _ | refine blk_drew ?_ | refine blk_alloc ?_ _)); refine blk_put (cs := #[.string ((rd_T57 t230 0).f1), .int .i64 (wrap64 (bt t231 0)), .string ((rd_T57 t241 0).f1), .int .u8 t247, .int .u8 t248, .int .u8 t249, .int .u8 t250, .int .u64 0]) ?_ 7 _ rfl; (with_reducible repeat (first | refine blk_drewN ?_ _ | refine blk_drew ?_ | refine blk_alloc ?_ _)); refine blk_put (cs := #[.string ((rd_T57 t230 0).f1), .int .i64 (wrap64 (bt t231 0)), .string ((rd_T57 t241 0).f1), .int .u8 t247, .int .u8 t248, .int .u8 t249, .int .u8 0, .int .u64 0]) ?_ 6 _ rfl; (with_reducible repeat (first | refine blk_drewN ?_ _ | refine blk_drew ?_ | refine blk_alloc ?_ _)); refine blk_put (cs := #[.string ((rd_T57 t230 0).f1), .int .i64 (wrap64 (bt t231 0)), .string ((rd_T57 t241 0).f1), .int .u8 t247, .int .u8 t248, .int .u8 0, .int .u8 0, .int .u64 0]) ?_ 5 _ rfl; (with_reducible repeat (first | refine blk_drewN ?_ _ | refine blk_drew ?_ | refine blk_alloc ?_ _)); refine blk_put (cs := #[.string ((rd_T57 t230 0).f1), .int .i64 (wrap64 (bt t231 0)), .string ((rd_T57 t241 0).f1), .int .u8 t247, .int .u8 0, .int .u8 0, .int .u8 0, .int .u64 0]) ?_ 4 _ rfl; (with_reducible repeat (first | refine blk_drewN ?_ _ | refine blk_drew ?_ | refine blk_alloc ?_ _)); refine blk_put (cs := #[.string ((rd_T57 t230 0).f1), .int .i64 (wrap64 (bt t231 0)), .string ((rd_T57 t241 0).f1), .int .u8 0, .int .u8 0, .int .u8 0, .int .u8 0, .int .u64 0]) ?_ 3 _ rfl; (with_reducible repeat (first | refine blk_drewN ?_ _ | refine blk_drew ?_ | refine blk_alloc ?_ _)); refine blk_put (cs := #[.string ((rd_T57 t230 0).f1), .int .i64 (wrap64 (bt t231 0)), .string (⟨#[]⟩ : ByteArray), .int .u8 0, .int .u8 0, .int .u8 0, .int .u8 0, .int .u64 0]) ?_ 2 _ rfl; (with_reducible repeat (first | refine blk_drewN ?_ _ | refine blk_drew ?_ | refine blk_alloc ?_ _)); refine blk_put (cs := #[.string ((rd_T57 t230 0).f1), .int .i64 0, .string (⟨#[]⟩ : ByteArray), .int .u8 0, .int .u8 0, .int .u8 0, .int .u8 0, .int .u64 0]) ?_ 1 _ rfl; (with_reducible repeat (first | refine blk_drewN ?_ _ | refine blk_drew ?_ | refine blk_alloc ?_ _)); refine blk_put (cs := #[.string (⟨#[]⟩ : ByteArray), .int .i64 0, .string (⟨#[]⟩ : ByteArray), .int .u8 0, .int .u8 0, .int .u8 0, .int .u8 0, .int .u64 0]) ?_ 0 _ rfl; (with_reducible repeat (first | refine blk_drewN ?_ _ | refine blk_drew ?_ | refine blk_alloc ?_ _)); refine blk_far ?_ NB226_236.out _; (with_reducible repeat (first | refine blk_drewN ?_ _ | refine blk_drew ?_ | refine blk_alloc ?_ _)); refine blk_far ?_ NB226_236.out _; (with_reducible repeat (first | refine blk_drewN ?_ _ | refine blk_drew ?_ | refine blk_alloc ?_ _)); refine blk_far ?_ NB226_236.out _; (with_reducible repeat (first | refine blk_drewN ?_ _ | refine blk_drew ?_ | refine blk_alloc ?_ _)); refine blk_far ?_ NB226_236.out _; (with_reducible repeat (first | refine blk_drewN ?_ _ | refine blk_drew ?_ | refine blk_alloc ?_ _)); refine blk_far ?_ NB226_236.out _; (with_reducible repeat (first | refine blk_drewN ?_ _ | refine blk_drew ?_ | refine blk_alloc ?_ _)); refine blk_far ?_ NB226_253.out _; (with_reducible repeat (first | refine blk_drewN ?_ _ | refine blk_drew ?_ | refine blk_alloc ?_ _)); refine blk_far ?_ NB226_253.out _; (with_reducible repeat (first | refine blk_drewN ?_ _ | refine blk_drew ?_ | refine blk_alloc ?_ _)); refine blk_far ?_ NB226_253.out _; (with_reducible repeat (first | refine blk_drewN ?_ _ | refine blk_drew ?_ | refine blk_alloc ?_ _)); refine blk_far ?_ NB226_253.out _; (with_reducible repeat (first | refine blk_drewN ?_ _ | refine blk_drew ?_ | refine blk_alloc ?_ _)); refine blk_far ?_ NB226_253.out _; (with_reducible repeat (first | refine blk_drewN ?_ _ | refine blk_drew ?_ | refine blk_alloc ?_ _)); exact BK226.out) Tryd.underlying33 rfl (by kernel_rfl)) rfl ?_
                                      exact ⟨by first | rfl | (simp [errW_none, errW_some] <;> rfl) | (simp [*, errW_none, errW_some] <;> rfl), by repeat (first | (with_reducible first | exact HB.out | apply below_alloc | apply pw_below_drewN | apply below_drew1 | refine below_set ?_ GE226.out | refine below_set ?_ GE236.out | refine below_set ?_ GE253.out) | exact HB.out)⟩
                                    · replace c60 := Bool.eq_false_iff.mpr c60
                                      subst c60
                                      have H1 : (some ((⟨#[]⟩ : ByteArray), 0, (⟨#[]⟩ : ByteArray), 0, 0, 0, 0, 0, 4)) = some (r1, r2, r3, r4, r5, r6, r7, r8, r9) := by rw [if_neg (show ¬ (false = true) by decide)] at H; exact H
                                      clear H
                                      have H := H1
                                      clear H1
                                      simp only [Option.some.injEq, Prod.mk.injEq] at H
                                      obtain ⟨rfl, rfl, rfl, rfl, rfl, rfl, rfl, rfl, rfl⟩ := H
                                      have hnb76 := NB236_226.out
                                      have hnc76 := NB226_236.out
                                      have hcz77_0 : wc.cell? ⟨gb236, 0, none⟩ = some (.string ((rd_T57 t230 0).f1)) := (blk_cell BK236.out 0).trans rfl
                                      have hcz77_1 : wc.cell? ⟨gb236, 1, none⟩ = some (.int .i64 (wrap64 (bt t231 0))) := (blk_cell BK236.out 1).trans rfl
                                      have hcz77_2 : wc.cell? ⟨gb236, 2, none⟩ = some (.string (⟨#[]⟩ : ByteArray)) := (blk_cell BK236.out 2).trans rfl
                                      have hcz77_3 : wc.cell? ⟨gb236, 3, none⟩ = some (.int .u8 0) := (blk_cell BK236.out 3).trans rfl
                                      have hcz77_4 : wc.cell? ⟨gb236, 4, none⟩ = some (.int .u8 0) := (blk_cell BK236.out 4).trans rfl
                                      have hcz77_5 : wc.cell? ⟨gb236, 5, none⟩ = some (.int .u8 0) := (blk_cell BK236.out 5).trans rfl
                                      have hcz77_6 : wc.cell? ⟨gb236, 6, none⟩ = some (.int .u8 0) := (blk_cell BK236.out 6).trans rfl
                                      have hcz77_7 : wc.cell? ⟨gb236, 7, none⟩ = some (.int .u64 0) := (blk_cell BK236.out 7).trans rfl
                                      have hfz77_0 := blk_frozen BK236.out 0
                                      have hfz77_1 := blk_frozen BK236.out 1
                                      have hfz77_2 := blk_frozen BK236.out 2
                                      have hfz77_3 := blk_frozen BK236.out 3
                                      have hfz77_4 := blk_frozen BK236.out 4
                                      have hfz77_5 := blk_frozen BK236.out 5
                                      have hfz77_6 := blk_frozen BK236.out 6
                                      have hfz77_7 := blk_frozen BK236.out 7
                                      go_wp2_with (first | ((with_reducible refine gate_dst (N := 67) rfl ?_); (try (refine gate_guard (by rfl) ?_; dsimp only)); refine Kd.R_lit (Kd.int .i64) _ 3 ?hg (N := 67) ?hd (xs := ([1] : List Int)) (inner := [.int .i64 1]) (ok := fun _ => True) (okp := fun _ => True) ?hr ?hp (fun _ hk => hk) trivial (Below.refl _ _) (Nat.le_refl _) (by simp) ?_; (case hd => rfl); (case hg => rfl); (case hr => first | (go_simp; done) | (go_simp; rfl)); (case hp => exact (Reps.one (show Kd.M (Kd.int .i64) _ _ _ 1 [.int .i64 1] from rfl) (Reps.none _ _))); intro v239 w78 ho79 hb hg_ hnew_; clear hg_ hnew_; (first | rw [← Ny238.out] at ho79 | (simp only [Int.reduceToNat] at ho79; rw [← Ny238.out] at ho79)); have n0_ := Aside0.mk (Kd.R_lower ho79 (below_size (by repeat (first | (with_reducible first | exact HB.out | apply below_alloc | apply pw_below_drewN | apply below_drew1 | refine below_set ?_ GE226.out | refine below_set ?_ GE236.out) | exact HB.out)))); have n1_ := Aside0.mk (blk_below (g := gb226) (o := .cells #[.string (⟨#[]⟩ : ByteArray), .int .i64 0, .string (⟨#[]⟩ : ByteArray), .int .u8 0, .int .u8 0, .int .u8 0, .int .u8 0, .int .u64 0] 33 (0, 0)) (by (with_reducible repeat (first | refine blk_drewN ?_ _ | refine blk_drew ?_ | refine blk_alloc ?_ _)); exact BK226.out) hb); have n2_ := Aside0.mk (blk_below (g := gb236) (o := .cells #[.string ((rd_T57 t230 0).f1), .int .i64 (wrap64 (bt t231 0)), .string (⟨#[]⟩ : ByteArray), .int .u8 0, .int .u8 0, .int .u8 0, .int .u8 0, .int .u64 0] 33 (0, 0)) (by (with_reducible repeat (first | refine blk_drewN ?_ _ | refine blk_drew ?_ | refine blk_alloc ?_ _)); exact BK236.out) hb); have n3_ := Aside0.mk (below_step (by repeat (first | (with_reducible first | exact HB.out | apply below_alloc | apply pw_below_drewN | apply below_drew1 | refine below_set ?_ GE226.out | refine below_set ?_ GE236.out) | exact HB.out)) hb); clear BK226; clear BK236; clear HB; have HO240 := n0_; have BK226 := n1_; have BK236 := n2_; have HB := n3_; clear n0_ n1_ n2_ n3_; clear hb ho79; obtain ⟨Ao80, co80, eo80⟩ := Kd.R_slice HO240.out; subst eo80) | ((with_reducible refine gate_callee (f := 24) rfl ?_); refine goesL_ (some 68) rfl rfl Tryd.func24 (by kernel_rfl) rfl #[.string (t231.extract 1 t231.size), .slice Ao80 y238.length co80] rfl (by (try simp only [List.map_toArray, List.map_cons, List.map_nil]); first | done | rfl | (simp only [List.length_drop, List.length_take]; rfl)) ?_; (with_reducible refine (cornucopiaref1_Get.calls kj24 (t231.extract 1 t231.size) _ _ y238 t241 t242 t243 _ ?side1 ?side2 A54.out).mono ?_); (case side1 => repeat (first | exact (Kd.R_reads' HO240.out).2.2 | (with_reducible refine Kd.C_alloc ?_ _) | (with_reducible refine Kd.C_drewN ?_ _) | (with_reducible refine Kd.C_drew ?_))); (case side2 => exact (Kd.R_reads' HO240.out).2.1); rintro e w81 ⟨v244, rfl, ho0, hb⟩; refine ⟨_, rfl, ?_⟩; have n0_ := Aside0.mk (Kd.R_below (by (with_reducible repeat (first | apply Kd.R_alloc | apply Kd.R_drewN | apply Kd.R_drew)); exact HO240.out) hb); have n1_ := Aside0.mk (Kd.R_lower ho0 (below_size (by repeat (first | (with_reducible first | exact HB.out | apply below_alloc | apply pw_below_drewN | apply below_drew1 | refine below_set ?_ GE226.out | refine below_set ?_ GE236.out) | exact HB.out)))); have n2_ := Aside0.mk (blk_below (g := gb226) (o := .cells #[.string (⟨#[]⟩ : ByteArray), .int .i64 0, .string (⟨#[]⟩ : ByteArray), .int .u8 0, .int .u8 0, .int .u8 0, .int .u8 0, .int .u64 0] 33 (0, 0)) (by (with_reducible repeat (first | refine blk_drewN ?_ _ | refine blk_drew ?_ | refine blk_alloc ?_ _)); exact BK226.out) hb); have n3_ := Aside0.mk (blk_below (g := gb236) (o := .cells #[.string ((rd_T57 t230 0).f1), .int .i64 (wrap64 (bt t231 0)), .string (⟨#[]⟩ : ByteArray), .int .u8 0, .int .u8 0, .int .u8 0, .int .u8 0, .int .u64 0] 33 (0, 0)) (by (with_reducible repeat (first | refine blk_drewN ?_ _ | refine blk_drew ?_ | refine blk_alloc ?_ _)); exact BK236.out) hb); have n4_ := Aside0.mk (below_step (by repeat (first | (with_reducible first | exact HB.out | apply below_alloc | apply pw_below_drewN | apply below_drew1 | refine below_set ?_ GE226.out | refine below_set ?_ GE236.out) | exact HB.out)) hb); clear HO240; clear BK226; clear BK236; clear HB; have HO240 := n0_; have HO245 := n1_; have BK226 := n2_; have BK236 := n3_; have HB := n4_; clear n0_ n1_ n2_ n3_ n4_; (try clear hb); (try clear hb2); (try clear hk); (try clear hi); (try clear ho0); obtain ⟨Ao82, co82, eo82⟩ := Kd.R_slice HO245.out; subst eo82; have p246 : 0 ≤ (0 : Int) := (by omega); have q246 : 0 < (t241.length : Int) := of_decide_eq_true (by first | (with_reducible assumption) | assumption); obtain ⟨ad246, e246, hx246_0, hx246_1, hx246_2, hx246_3⟩ := at_T57 (Kd.R_reads' HO245.out).2.2 0 p246 q246; cases e246; have qi246 : (0 < t241.length) = True := eq_true (by omega); (try rw [show ((0 : Int)).toNat = 0 from rfl] at hx246_0); (try rw [show 0 * 4 = 0 from rfl] at hx246_0); (try rw [Addr.add_zero'] at hx246_0); (try rw [show ((0 : Int)).toNat = 0 from rfl] at hx246_1); (try rw [show 0 * 4 = 0 from rfl] at hx246_1); (try rw [Addr.add_zero'] at hx246_1); (try rw [show ((0 : Int)).toNat = 0 from rfl] at hx246_2); (try rw [show 0 * 4 = 0 from rfl] at hx246_2); (try rw [Addr.add_zero'] at hx246_2); (try rw [show ((0 : Int)).toNat = 0 from rfl] at hx246_3); (try rw [show 0 * 4 = 0 from rfl] at hx246_3); (try rw [Addr.add_zero'] at hx246_3); replace p246 := eq_true p246; replace q246 := eq_true q246; have hcz83_0 : w81.cell? ⟨gb236, 0, none⟩ = some (.string ((rd_T57 t230 0).f1)) := (blk_cell BK236.out 0).trans rfl; have hcz83_1 : w81.cell? ⟨gb236, 1, none⟩ = some (.int .i64 (wrap64 (bt t231 0))) := (blk_cell BK236.out 1).trans rfl; have hcz83_2 : w81.cell? ⟨gb236, 2, none⟩ = some (.string (⟨#[]⟩ : ByteArray)) := (blk_cell BK236.out 2).trans rfl; have hcz83_3 : w81.cell? ⟨gb236, 3, none⟩ = some (.int .u8 0) := (blk_cell BK236.out 3).trans rfl; have hcz83_4 : w81.cell? ⟨gb236, 4, none⟩ = some (.int .u8 0) := (blk_cell BK236.out 4).trans rfl; have hcz83_5 : w81.cell? ⟨gb236, 5, none⟩ = some (.int .u8 0) := (blk_cell BK236.out 5).trans rfl; have hcz83_6 : w81.cell? ⟨gb236, 6, none⟩ = some (.int .u8 0) := (blk_cell BK236.out 6).trans rfl; have hcz83_7 : w81.cell? ⟨gb236, 7, none⟩ = some (.int .u64 0) := (blk_cell BK236.out 7).trans rfl; have hfz83_0 := blk_frozen BK236.out 0; have hfz83_1 := blk_frozen BK236.out 1; have hfz83_2 := blk_frozen BK236.out 2; have hfz83_3 := blk_frozen BK236.out 3; have hfz83_4 := blk_frozen BK236.out 4; have hfz83_5 := blk_frozen BK236.out 5; have hfz83_6 := blk_frozen BK236.out 6; have hfz83_7 := blk_frozen BK236.out 7) | ((with_reducible refine gate_callee (f := 25) rfl ?_); refine goesL_ (some 82) rfl rfl Tryd.func25 (by kernel_rfl) rfl #[.string t242] rfl (by (try simp only [List.map_toArray, List.map_cons, List.map_nil]); first | done | rfl | (simp only [List.length_drop, List.length_take]; rfl)) ?_; (with_reducible refine (cornucopiaref17_Parse.calls kj24 t242 t247 t248 t249 t250 t251 t252 _ A57.out).mono ?_); rintro e w84 ⟨rfl, hb⟩; refine ⟨_, rfl, ?_⟩; have n0_ := Aside0.mk (Kd.R_below (by (with_reducible repeat (first | apply Kd.R_alloc | apply Kd.R_drewN | apply Kd.R_drew)); exact (Kd.R_mono (Kd.R_far (p := ⟨gb236, 2, none⟩) (Kd.R_types HO240.out BK236.out (by decide)) (fun _ hk => hk.2) (.string ((rd_T57 t241 0).f1))) (fun _ h_ => h_.1))) hb); have n1_ := Aside0.mk (Kd.R_below (by (with_reducible repeat (first | apply Kd.R_alloc | apply Kd.R_drewN | apply Kd.R_drew)); exact (Kd.R_mono (Kd.R_far (p := ⟨gb236, 2, none⟩) (Kd.R_types HO245.out BK236.out (by decide)) (fun _ hk => hk.2) (.string ((rd_T57 t241 0).f1))) (fun _ h_ => h_.1))) hb); have n2_ := Aside0.mk (blk_below (g := gb226) (o := .cells #[.string (⟨#[]⟩ : ByteArray), .int .i64 0, .string (⟨#[]⟩ : ByteArray), .int .u8 0, .int .u8 0, .int .u8 0, .int .u8 0, .int .u64 0] 33 (0, 0)) (by (with_reducible repeat (first | refine blk_drewN ?_ _ | refine blk_drew ?_ | refine blk_alloc ?_ _)); refine blk_far ?_ NB226_236.out _; (with_reducible repeat (first | refine blk_drewN ?_ _ | refine blk_drew ?_ | refine blk_alloc ?_ _)); exact BK226.out) hb); have n3_ := Aside0.mk (blk_below (g := gb236) (o := .cells #[.string ((rd_T57 t230 0).f1), .int .i64 (wrap64 (bt t231 0)), .string ((rd_T57 t241 0).f1), .int .u8 0, .int .u8 0, .int .u8 0, .int .u8 0, .int .u64 0] 33 (0, 0)) (by (with_reducible repeat (first | refine blk_drewN ?_ _ | refine blk_drew ?_ | refine blk_alloc ?_ _)); refine blk_put (cs := #[.string ((rd_T57 t230 0).f1), .int .i64 (wrap64 (bt t231 0)), .string (⟨#[]⟩ : ByteArray), .int .u8 0, .int .u8 0, .int .u8 0, .int .u8 0, .int .u64 0]) ?_ 2 _ rfl; (with_reducible repeat (first | refine blk_drewN ?_ _ | refine blk_drew ?_ | refine blk_alloc ?_ _)); exact BK236.out) hb); have n4_ := Aside0.mk (below_step (by repeat (first | (with_reducible first | exact HB.out | apply below_alloc | apply pw_below_drewN | apply below_drew1 | refine below_set ?_ GE226.out | refine below_set ?_ GE236.out) | exact HB.out)) hb); clear HO240; clear HO245; clear BK226; clear BK236; clear HB; have HO240 := n0_; have HO245 := n1_; have BK226 := n2_; have BK236 := n3_; have HB := n4_; clear n0_ n1_ n2_ n3_ n4_; (try clear hb); (try clear hb2); (try clear hk); (try clear hi)) | ((with_reducible refine gate_dst (N := 8) rfl ?_); (try (refine gate_guard (by rfl) ?_; dsimp only)); refine box_event ?hg (N := 8) ?hd (cs := #[.int .u8 0, .int .u8 0, .int .u8 0, .int .u8 0, .int .u64 0]) (t := 26) ?hr ?_; (case hd => rfl); (case hg => rfl); (case hr => first | (go_simp; done) | (go_simp; rfl)); intro gb253 hg w85 hbox hb; have n0_ := Aside0.mk (Kd.R_below (by (with_reducible repeat (first | apply Kd.R_alloc | apply Kd.R_drewN | apply Kd.R_drew)); exact HO240.out) hb); have n1_ := Aside0.mk (Kd.R_below (by (with_reducible repeat (first | apply Kd.R_alloc | apply Kd.R_drewN | apply Kd.R_drew)); exact HO245.out) hb); have n2_ := Aside0.mk (blk_below (g := gb226) (o := .cells #[.string (⟨#[]⟩ : ByteArray), .int .i64 0, .string (⟨#[]⟩ : ByteArray), .int .u8 0, .int .u8 0, .int .u8 0, .int .u8 0, .int .u64 0] 33 (0, 0)) (by (with_reducible repeat (first | refine blk_drewN ?_ _ | refine blk_drew ?_ | refine blk_alloc ?_ _)); exact BK226.out) hb); have n3_ := Aside0.mk (blk_below (g := gb236) (o := .cells #[.string ((rd_T57 t230 0).f1), .int .i64 (wrap64 (bt t231 0)), .string ((rd_T57 t241 0).f1), .int .u8 0, .int .u8 0, .int .u8 0, .int .u8 0, .int .u64 0] 33 (0, 0)) (by (with_reducible repeat (first | refine blk_drewN ?_ _ | refine blk_drew ?_ | refine blk_alloc ?_ _)); exact BK236.out) hb); have n4_ := Aside0.mk (below_step (by repeat (first | (with_reducible first | exact HB.out | apply below_alloc | apply pw_below_drewN | apply below_drew1 | refine below_set ?_ GE226.out | refine below_set ?_ GE236.out) | exact HB.out)) hb); have n5_ := Aside0.mk (hbox); have n6_ := Aside0.mk ((by rw [hg]; exact (below_size (by repeat (first | (with_reducible first | exact HB.out | apply below_alloc | apply pw_below_drewN | apply below_drew1 | refine below_set ?_ GE226.out | refine below_set ?_ GE236.out) | exact HB.out))) : w.heap.size ≤ gb253)); have n7_ := Aside0.mk ((by rw [hg]; exact (below_size (by repeat (first | (with_reducible first | exact HB.out | apply below_alloc | apply pw_below_drewN | apply below_drew1 | refine below_set ?_ GE226.out | refine below_set ?_ GE236.out) | exact HB.out))) : w.heap.size ≤ gb253)); have n8_ := Aside0.mk ((by rw [hg]; exact Nat.ne_of_lt (blk_lt (g := gb226) (o := .cells #[.string (⟨#[]⟩ : ByteArray), .int .i64 0, .string (⟨#[]⟩ : ByteArray), .int .u8 0, .int .u8 0, .int .u8 0, .int .u8 0, .int .u64 0] 33 (0, 0)) (by (with_reducible repeat (first | refine blk_drewN ?_ _ | refine blk_drew ?_ | refine blk_alloc ?_ _)); exact BK226.out)) : gb226 ≠ gb253)); have n9_ := Aside0.mk ((by rw [hg]; exact Nat.ne_of_gt (blk_lt (g := gb226) (o := .cells #[.string (⟨#[]⟩ : ByteArray), .int .i64 0, .string (⟨#[]⟩ : ByteArray), .int .u8 0, .int .u8 0, .int .u8 0, .int .u8 0, .int .u64 0] 33 (0, 0)) (by (with_reducible repeat (first | refine blk_drewN ?_ _ | refine blk_drew ?_ | refine blk_alloc ?_ _)); exact BK226.out)) : gb253 ≠ gb226)); have n10_ := Aside0.mk ((by rw [hg]; exact Nat.ne_of_lt (blk_lt (g := gb236) (o := .cells #[.string ((rd_T57 t230 0).f1), .int .i64 (wrap64 (bt t231 0)), .string ((rd_T57 t241 0).f1), .int .u8 0, .int .u8 0, .int .u8 0, .int .u8 0, .int .u64 0] 33 (0, 0)) (by (with_reducible repeat (first | refine blk_drewN ?_ _ | refine blk_drew ?_ | refine blk_alloc ?_ _)); exact BK236.out)) : gb236 ≠ gb253)); have n11_ := Aside0.mk ((by rw [hg]; exact Nat.ne_of_gt (blk_lt (g := gb236) (o := .cells #[.string ((rd_T57 t230 0).f1), .int .i64 (wrap64 (bt t231 0)), .string ((rd_T57 t241 0).f1), .int .u8 0, .int .u8 0, .int .u8 0, .int .u8 0, .int .u64 0] 33 (0, 0)) (by (with_reducible repeat (first | refine blk_drewN ?_ _ | refine blk_drew ?_ | refine blk_alloc ?_ _)); exact BK236.out)) : gb253 ≠ gb236)); clear HO240; clear HO245; clear BK226; clear BK236; clear HB; have HO240 := n0_; have HO245 := n1_; have BK226 := n2_; have BK236 := n3_; have HB := n4_; have BK253 := n5_; have GW253 := n6_; have GE253 := n7_; have NB226_253 := n8_; have NB253_226 := n9_; have NB236_253 := n10_; have NB253_236 := n11_; clear n0_ n1_ n2_ n3_ n4_ n5_ n6_ n7_ n8_ n9_ n10_ n11_; clear hb hbox hg; have hnb86 := NB253_226.out; have hnc86 := NB226_253.out; have hnb87 := NB253_236.out; have hnc87 := NB236_253.out; have hcz88_0 : w85.cell? ⟨gb253, 0, none⟩ = some (.int .u8 0) := (blk_cell BK253.out 0).trans rfl; have hcz88_1 : w85.cell? ⟨gb253, 1, none⟩ = some (.int .u8 0) := (blk_cell BK253.out 1).trans rfl; have hcz88_2 : w85.cell? ⟨gb253, 2, none⟩ = some (.int .u8 0) := (blk_cell BK253.out 2).trans rfl; have hcz88_3 : w85.cell? ⟨gb253, 3, none⟩ = some (.int .u8 0) := (blk_cell BK253.out 3).trans rfl; have hcz88_4 : w85.cell? ⟨gb253, 4, none⟩ = some (.int .u64 0) := (blk_cell BK253.out 4).trans rfl; have hfz88_0 := blk_frozen BK253.out 0; have hfz88_1 := blk_frozen BK253.out 1; have hfz88_2 := blk_frozen BK253.out 2; have hfz88_3 := blk_frozen BK253.out 3; have hfz88_4 := blk_frozen BK253.out 4; have hcz89_0 : w85.cell? ⟨gb236, 0, none⟩ = some (.string ((rd_T57 t230 0).f1)) := (blk_cell BK236.out 0).trans rfl; have hcz89_1 : w85.cell? ⟨gb236, 1, none⟩ = some (.int .i64 (wrap64 (bt t231 0))) := (blk_cell BK236.out 1).trans rfl; have hcz89_2 : w85.cell? ⟨gb236, 2, none⟩ = some (.string ((rd_T57 t241 0).f1)) := (blk_cell BK236.out 2).trans rfl; have hcz89_3 : w85.cell? ⟨gb236, 3, none⟩ = some (.int .u8 0) := (blk_cell BK236.out 3).trans rfl; have hcz89_4 : w85.cell? ⟨gb236, 4, none⟩ = some (.int .u8 0) := (blk_cell BK236.out 4).trans rfl; have hcz89_5 : w85.cell? ⟨gb236, 5, none⟩ = some (.int .u8 0) := (blk_cell BK236.out 5).trans rfl; have hcz89_6 : w85.cell? ⟨gb236, 6, none⟩ = some (.int .u8 0) := (blk_cell BK236.out 6).trans rfl; have hcz89_7 : w85.cell? ⟨gb236, 7, none⟩ = some (.int .u64 0) := (blk_cell BK236.out 7).trans rfl; have hfz89_0 := blk_frozen BK236.out 0; have hfz89_1 := blk_frozen BK236.out 1; have hfz89_2 := blk_frozen BK236.out 2; have hfz89_3 := blk_frozen BK236.out 3; have hfz89_4 := blk_frozen BK236.out 4; have hfz89_5 := blk_frozen BK236.out 5; have hfz89_6 := blk_frozen BK236.out 6; have hfz89_7 := blk_frozen BK236.out 7) | (go_at_call 20; (with_reducible refine (cornucopiaref20_ValidElem.calls ((rd_T57 t241 0).f1) false _ A59.out).mono ?_); rintro e w' ⟨rfl, ⟨nd, rfl⟩⟩; have hcz90_0 : w85.cell? ⟨gb226, 0, none⟩ = some (.string (⟨#[]⟩ : ByteArray)) := (blk_cell BK226.out 0).trans rfl; have hcz90_1 : w85.cell? ⟨gb226, 1, none⟩ = some (.int .i64 0) := (blk_cell BK226.out 1).trans rfl; have hcz90_2 : w85.cell? ⟨gb226, 2, none⟩ = some (.string (⟨#[]⟩ : ByteArray)) := (blk_cell BK226.out 2).trans rfl; have hcz90_3 : w85.cell? ⟨gb226, 3, none⟩ = some (.int .u8 0) := (blk_cell BK226.out 3).trans rfl; have hcz90_4 : w85.cell? ⟨gb226, 4, none⟩ = some (.int .u8 0) := (blk_cell BK226.out 4).trans rfl; have hcz90_5 : w85.cell? ⟨gb226, 5, none⟩ = some (.int .u8 0) := (blk_cell BK226.out 5).trans rfl; have hcz90_6 : w85.cell? ⟨gb226, 6, none⟩ = some (.int .u8 0) := (blk_cell BK226.out 6).trans rfl; have hcz90_7 : w85.cell? ⟨gb226, 7, none⟩ = some (.int .u64 0) := (blk_cell BK226.out 7).trans rfl; have hfz90_0 := blk_frozen BK226.out 0; have hfz90_1 := blk_frozen BK226.out 1; have hfz90_2 := blk_frozen BK226.out 2; have hfz90_3 := blk_frozen BK226.out 3; have hfz90_4 := blk_frozen BK226.out 4; have hfz90_5 := blk_frozen BK226.out 5; have hfz90_6 := blk_frozen BK226.out 6; have hfz90_7 := blk_frozen BK226.out 7))
                                      refine bodyPost_ret (results_ct rfl _ _ gb226 33 #[.string (⟨#[]⟩ : ByteArray), .int .i64 0, .string (⟨#[]⟩ : ByteArray), .int .u8 0, .int .u8 0, .int .u8 0, .int .u8 0, .int .u64 0] (0, 0) _ rfl (by (with_reducible repeat (first | refine blk_drewN ?_ _ | refine blk_drew ?_ | refine blk_alloc ?_ _)); refine blk_put (cs := #[.string (⟨#[]⟩ : ByteArray), .int .i64 0, .string (⟨#[]⟩ : ByteArray), .int .u8 0, .int .u8 0, .int .u8 0, .int .u8 0, .int .u64 0]) ?_ 7 _ rfl; (with_reducible repeat (first | refine blk_drewN ?_ _ | refine blk_drew ?_ | refine blk_alloc ?_ _)); refine blk_put (cs := #[.string (⟨#[]⟩ : ByteArray), .int .i64 0, .string (⟨#[]⟩ : ByteArray), .int .u8 0, .int .u8 0, .int .u8 0, .int .u8 0, .int .u64 0]) ?_ 6 _ rfl; (with_reducible repeat (first | refine blk_drewN ?_ _ | refine blk_drew ?_ | refine blk_alloc ?_ _)); refine blk_put (cs := #[.string (⟨#[]⟩ : ByteArray), .int .i64 0, .string (⟨#[]⟩ : ByteArray), .int .u8 0, .int .u8 0, .int .u8 0, .int .u8 0, .int .u64 0]) ?_ 5 _ rfl; (with_reducible repeat (first | refine blk_drewN ?_ _ | refine blk_drew ?_ | refine blk_alloc ?_ _)); refine blk_put (cs := #[.string (⟨#[]⟩ : ByteArray), .int .i64 0, .string (⟨#[]⟩ : ByteArray), .int .u8 0, .int .u8 0, .int .u8 0, .int .u8 0, .int .u64 0]) ?_ 4 _ rfl; (with_reducible repeat (first | refine blk_drewN ?_ _ | refine blk_drew ?_ | refine blk_alloc ?_ _)); refine blk_put (cs := #[.string (⟨#[]⟩ : ByteArray), .int .i64 0, .string (⟨#[]⟩ : ByteArray), .int .u8 0, .int .u8 0, .int .u8 0, .int .u8 0, .int .u64 0]) ?_ 3 _ rfl; (with_reducible repeat (first | refine blk_drewN ?_ _ | refine blk_drew ?_ | refine blk_alloc ?_ _)); refine blk_put (cs := #[.string (⟨#[]⟩ : ByteArray), .int .i64 0, .string (⟨#[]⟩ : ByteArray), .int .u8 0, .int .u8 0, .int .u8 0, .int .u8 0, .int .u64 0]) ?_ 2 _ rfl; (with_reducible repeat (first | refine blk_drewN ?_ _ | refine blk_drew ?_ | refine blk_alloc ?_ _)); refine blk_put (cs := #[.string (⟨#[]⟩ : ByteArray), .int .i64 0, .string (⟨#[]⟩ : ByteArray), .int .u8 0, .int .u8 0, .int .u8 0, .int .u8 0, .int .u64 0]) ?_ 1 _ rfl; (with_reducible repeat (first | refine blk_drewN ?_ _ | refine blk_drew ?_ | refine blk_alloc ?_ _)); refine blk_put (cs := #[.string (⟨#[]⟩ : ByteArray), .int .i64 0, .string (⟨#[]⟩ : ByteArray), .int .u8 0, .int .u8 0, .int .u8 0, .int .u8 0, .int .u64 0]) ?_ 0 _ rfl; (with_reducible repeat (first | refine blk_drewN ?_ _ | refine blk_drew ?_ | refine blk_alloc ?_ _)); refine blk_far ?_ NB226_236.out _; (with_reducible repeat (first | refine blk_drewN ?_ _ | refine blk_drew ?_ | refine blk_alloc ?_ _)); refine blk_far ?_ NB226_236.out _; (with_reducible repeat (first | refine blk_drewN ?_ _ | refine blk_drew ?_ | refine blk_alloc ?_ _)); refine blk_far ?_ NB226_236.out _; (with_reducible repeat (first | refine blk_drewN ?_ _ | refine blk_drew ?_ | refine blk_alloc ?_ _)); refine blk_far ?_ NB226_236.out _; (with_reducible repeat (first | refine blk_drewN ?_ _ | refine blk_drew ?_ | refine blk_alloc ?_ _)); refine blk_far ?_ NB226_236.out _; (with_reducible repeat (first | refine blk_drewN ?_ _ | refine blk_drew ?_ | refine blk_alloc ?_ _)); refine blk_far ?_ NB226_253.out _; (with_reducible repeat (first | refine blk_drewN ?_ _ | refine blk_drew ?_ | refine blk_alloc ?_ _)); refine blk_far ?_ NB226_253.out _; (with_reducible repeat (first | refine blk_drewN ?_ _ | refine blk_drew ?_ | refine blk_alloc ?_ _)); refine blk_far ?_ NB226_253.out _; (with_reducible repeat (first | refine blk_drewN ?_ _ | refine blk_drew ?_ | refine blk_alloc ?_ _)); refine blk_far ?_ NB226_253.out _; (with_reducible repeat (first | refine blk_drewN ?_ _ | refine blk_drew ?_ | refine blk_alloc ?_ _)); refine blk_far ?_ NB226_253.out _; (with_reducible repeat (first | refine blk_drewN ?_ _ | refine blk_drew ?_ | refine blk_alloc ?_ _)); exact BK226.out) Tryd.underlying33 rfl (by kernel_rfl)) rfl ?_
                                      exact ⟨by first | rfl | (simp [errW_none, errW_some] <;> rfl) | (simp [*, errW_none, errW_some] <;> rfl), by repeat (first | (with_reducible first | exact HB.out | apply below_alloc | apply pw_below_drewN | apply below_drew1 | refine below_set ?_ GE226.out | refine below_set ?_ GE236.out | refine below_set ?_ GE253.out) | exact HB.out)⟩
                                  · rw [if_neg c58] at H
                                    have c58b0 : (t252 == 0) = false := beq_eq_false_iff_ne.mpr c58
                                    have c58b1 : (t252 != 0) = true := bne_iff_ne.mpr c58
                                    simp only [Option.some.injEq, Prod.mk.injEq] at H
                                    obtain ⟨rfl, rfl, rfl, rfl, rfl, rfl, rfl, rfl, rfl⟩ := H
                                    have hnb91 := NB236_226.out
                                    have hnc91 := NB226_236.out
                                    have hcz92_0 : wc.cell? ⟨gb236, 0, none⟩ = some (.string ((rd_T57 t230 0).f1)) := (blk_cell BK236.out 0).trans rfl
                                    have hcz92_1 : wc.cell? ⟨gb236, 1, none⟩ = some (.int .i64 (wrap64 (bt t231 0))) := (blk_cell BK236.out 1).trans rfl
                                    have hcz92_2 : wc.cell? ⟨gb236, 2, none⟩ = some (.string (⟨#[]⟩ : ByteArray)) := (blk_cell BK236.out 2).trans rfl
                                    have hcz92_3 : wc.cell? ⟨gb236, 3, none⟩ = some (.int .u8 0) := (blk_cell BK236.out 3).trans rfl
                                    have hcz92_4 : wc.cell? ⟨gb236, 4, none⟩ = some (.int .u8 0) := (blk_cell BK236.out 4).trans rfl
                                    have hcz92_5 : wc.cell? ⟨gb236, 5, none⟩ = some (.int .u8 0) := (blk_cell BK236.out 5).trans rfl
                                    have hcz92_6 : wc.cell? ⟨gb236, 6, none⟩ = some (.int .u8 0) := (blk_cell BK236.out 6).trans rfl
                                    have hcz92_7 : wc.cell? ⟨gb236, 7, none⟩ = some (.int .u64 0) := (blk_cell BK236.out 7).trans rfl
                                    have hfz92_0 := blk_frozen BK236.out 0
                                    have hfz92_1 := blk_frozen BK236.out 1
                                    have hfz92_2 := blk_frozen BK236.out 2
                                    have hfz92_3 := blk_frozen BK236.out 3
                                    have hfz92_4 := blk_frozen BK236.out 4
                                    have hfz92_5 := blk_frozen BK236.out 5
                                    have hfz92_6 := blk_frozen BK236.out 6
                                    have hfz92_7 := blk_frozen BK236.out 7
                                    go_wp2_with (first | ((with_reducible refine gate_dst (N := 67) rfl ?_); (try (refine gate_guard (by rfl) ?_; dsimp only)); refine Kd.R_lit (Kd.int .i64) _ 3 ?hg (N := 67) ?hd (xs := ([1] : List Int)) (inner := [.int .i64 1]) (ok := fun _ => True) (okp := fun _ => True) ?hr ?hp (fun _ hk => hk) trivial (Below.refl _ _) (Nat.le_refl _) (by simp) ?_; (case hd => rfl); (case hg => rfl); (case hr => first | (go_simp; done) | (go_simp; rfl)); (case hp => exact (Reps.one (show Kd.M (Kd.int .i64) _ _ _ 1 [.int .i64 1] from rfl) (Reps.none _ _))); intro v239 w93 ho94 hb hg_ hnew_; clear hg_ hnew_; (first | rw [← Ny238.out] at ho94 | (simp only [Int.reduceToNat] at ho94; rw [← Ny238.out] at ho94)); have n0_ := Aside0.mk (Kd.R_lower ho94 (below_size (by repeat (first | (with_reducible first | exact HB.out | apply below_alloc | apply pw_below_drewN | apply below_drew1 | refine below_set ?_ GE226.out | refine below_set ?_ GE236.out) | exact HB.out)))); have n1_ := Aside0.mk (blk_below (g := gb226) (o := .cells #[.string (⟨#[]⟩ : ByteArray), .int .i64 0, .string (⟨#[]⟩ : ByteArray), .int .u8 0, .int .u8 0, .int .u8 0, .int .u8 0, .int .u64 0] 33 (0, 0)) (by (with_reducible repeat (first | refine blk_drewN ?_ _ | refine blk_drew ?_ | refine blk_alloc ?_ _)); exact BK226.out) hb); have n2_ := Aside0.mk (blk_below (g := gb236) (o := .cells #[.string ((rd_T57 t230 0).f1), .int .i64 (wrap64 (bt t231 0)), .string (⟨#[]⟩ : ByteArray), .int .u8 0, .int .u8 0, .int .u8 0, .int .u8 0, .int .u64 0] 33 (0, 0)) (by (with_reducible repeat (first | refine blk_drewN ?_ _ | refine blk_drew ?_ | refine blk_alloc ?_ _)); exact BK236.out) hb); have n3_ := Aside0.mk (below_step (by repeat (first | (with_reducible first | exact HB.out | apply below_alloc | apply pw_below_drewN | apply below_drew1 | refine below_set ?_ GE226.out | refine below_set ?_ GE236.out) | exact HB.out)) hb); clear BK226; clear BK236; clear HB; have HO240 := n0_; have BK226 := n1_; have BK236 := n2_; have HB := n3_; clear n0_ n1_ n2_ n3_; clear hb ho94; obtain ⟨Ao95, co95, eo95⟩ := Kd.R_slice HO240.out; subst eo95) | ((with_reducible refine gate_callee (f := 24) rfl ?_); refine goesL_ (some 68) rfl rfl Tryd.func24 (by kernel_rfl) rfl #[.string (t231.extract 1 t231.size), .slice Ao95 y238.length co95] rfl (by (try simp only [List.map_toArray, List.map_cons, List.map_nil]); first | done | rfl | (simp only [List.length_drop, List.length_take]; rfl)) ?_; (with_reducible refine (cornucopiaref1_Get.calls kj24 (t231.extract 1 t231.size) _ _ y238 t241 t242 t243 _ ?side1 ?side2 A54.out).mono ?_); (case side1 => repeat (first | exact (Kd.R_reads' HO240.out).2.2 | (with_reducible refine Kd.C_alloc ?_ _) | (with_reducible refine Kd.C_drewN ?_ _) | (with_reducible refine Kd.C_drew ?_))); (case side2 => exact (Kd.R_reads' HO240.out).2.1); rintro e w96 ⟨v244, rfl, ho0, hb⟩; refine ⟨_, rfl, ?_⟩; have n0_ := Aside0.mk (Kd.R_below (by (with_reducible repeat (first | apply Kd.R_alloc | apply Kd.R_drewN | apply Kd.R_drew)); exact HO240.out) hb); have n1_ := Aside0.mk (Kd.R_lower ho0 (below_size (by repeat (first | (with_reducible first | exact HB.out | apply below_alloc | apply pw_below_drewN | apply below_drew1 | refine below_set ?_ GE226.out | refine below_set ?_ GE236.out) | exact HB.out)))); have n2_ := Aside0.mk (blk_below (g := gb226) (o := .cells #[.string (⟨#[]⟩ : ByteArray), .int .i64 0, .string (⟨#[]⟩ : ByteArray), .int .u8 0, .int .u8 0, .int .u8 0, .int .u8 0, .int .u64 0] 33 (0, 0)) (by (with_reducible repeat (first | refine blk_drewN ?_ _ | refine blk_drew ?_ | refine blk_alloc ?_ _)); exact BK226.out) hb); have n3_ := Aside0.mk (blk_below (g := gb236) (o := .cells #[.string ((rd_T57 t230 0).f1), .int .i64 (wrap64 (bt t231 0)), .string (⟨#[]⟩ : ByteArray), .int .u8 0, .int .u8 0, .int .u8 0, .int .u8 0, .int .u64 0] 33 (0, 0)) (by (with_reducible repeat (first | refine blk_drewN ?_ _ | refine blk_drew ?_ | refine blk_alloc ?_ _)); exact BK236.out) hb); have n4_ := Aside0.mk (below_step (by repeat (first | (with_reducible first | exact HB.out | apply below_alloc | apply pw_below_drewN | apply below_drew1 | refine below_set ?_ GE226.out | refine below_set ?_ GE236.out) | exact HB.out)) hb); clear HO240; clear BK226; clear BK236; clear HB; have HO240 := n0_; have HO245 := n1_; have BK226 := n2_; have BK236 := n3_; have HB := n4_; clear n0_ n1_ n2_ n3_ n4_; (try clear hb); (try clear hb2); (try clear hk); (try clear hi); (try clear ho0); obtain ⟨Ao97, co97, eo97⟩ := Kd.R_slice HO245.out; subst eo97; have p246 : 0 ≤ (0 : Int) := (by omega); have q246 : 0 < (t241.length : Int) := of_decide_eq_true (by first | (with_reducible assumption) | assumption); obtain ⟨ad246, e246, hx246_0, hx246_1, hx246_2, hx246_3⟩ := at_T57 (Kd.R_reads' HO245.out).2.2 0 p246 q246; cases e246; have qi246 : (0 < t241.length) = True := eq_true (by omega); (try rw [show ((0 : Int)).toNat = 0 from rfl] at hx246_0); (try rw [show 0 * 4 = 0 from rfl] at hx246_0); (try rw [Addr.add_zero'] at hx246_0); (try rw [show ((0 : Int)).toNat = 0 from rfl] at hx246_1); (try rw [show 0 * 4 = 0 from rfl] at hx246_1); (try rw [Addr.add_zero'] at hx246_1); (try rw [show ((0 : Int)).toNat = 0 from rfl] at hx246_2); (try rw [show 0 * 4 = 0 from rfl] at hx246_2); (try rw [Addr.add_zero'] at hx246_2); (try rw [show ((0 : Int)).toNat = 0 from rfl] at hx246_3); (try rw [show 0 * 4 = 0 from rfl] at hx246_3); (try rw [Addr.add_zero'] at hx246_3); replace p246 := eq_true p246; replace q246 := eq_true q246; have hcz98_0 : w96.cell? ⟨gb236, 0, none⟩ = some (.string ((rd_T57 t230 0).f1)) := (blk_cell BK236.out 0).trans rfl; have hcz98_1 : w96.cell? ⟨gb236, 1, none⟩ = some (.int .i64 (wrap64 (bt t231 0))) := (blk_cell BK236.out 1).trans rfl; have hcz98_2 : w96.cell? ⟨gb236, 2, none⟩ = some (.string (⟨#[]⟩ : ByteArray)) := (blk_cell BK236.out 2).trans rfl; have hcz98_3 : w96.cell? ⟨gb236, 3, none⟩ = some (.int .u8 0) := (blk_cell BK236.out 3).trans rfl; have hcz98_4 : w96.cell? ⟨gb236, 4, none⟩ = some (.int .u8 0) := (blk_cell BK236.out 4).trans rfl; have hcz98_5 : w96.cell? ⟨gb236, 5, none⟩ = some (.int .u8 0) := (blk_cell BK236.out 5).trans rfl; have hcz98_6 : w96.cell? ⟨gb236, 6, none⟩ = some (.int .u8 0) := (blk_cell BK236.out 6).trans rfl; have hcz98_7 : w96.cell? ⟨gb236, 7, none⟩ = some (.int .u64 0) := (blk_cell BK236.out 7).trans rfl; have hfz98_0 := blk_frozen BK236.out 0; have hfz98_1 := blk_frozen BK236.out 1; have hfz98_2 := blk_frozen BK236.out 2; have hfz98_3 := blk_frozen BK236.out 3; have hfz98_4 := blk_frozen BK236.out 4; have hfz98_5 := blk_frozen BK236.out 5; have hfz98_6 := blk_frozen BK236.out 6; have hfz98_7 := blk_frozen BK236.out 7) | ((with_reducible refine gate_callee (f := 25) rfl ?_); refine goesL_ (some 82) rfl rfl Tryd.func25 (by kernel_rfl) rfl #[.string t242] rfl (by (try simp only [List.map_toArray, List.map_cons, List.map_nil]); first | done | rfl | (simp only [List.length_drop, List.length_take]; rfl)) ?_; (with_reducible refine (cornucopiaref17_Parse.calls kj24 t242 t247 t248 t249 t250 t251 t252 _ A57.out).mono ?_); rintro e w99 ⟨rfl, hb⟩; refine ⟨_, rfl, ?_⟩; have n0_ := Aside0.mk (Kd.R_below (by (with_reducible repeat (first | apply Kd.R_alloc | apply Kd.R_drewN | apply Kd.R_drew)); exact (Kd.R_mono (Kd.R_far (p := ⟨gb236, 2, none⟩) (Kd.R_types HO240.out BK236.out (by decide)) (fun _ hk => hk.2) (.string ((rd_T57 t241 0).f1))) (fun _ h_ => h_.1))) hb); have n1_ := Aside0.mk (Kd.R_below (by (with_reducible repeat (first | apply Kd.R_alloc | apply Kd.R_drewN | apply Kd.R_drew)); exact (Kd.R_mono (Kd.R_far (p := ⟨gb236, 2, none⟩) (Kd.R_types HO245.out BK236.out (by decide)) (fun _ hk => hk.2) (.string ((rd_T57 t241 0).f1))) (fun _ h_ => h_.1))) hb); have n2_ := Aside0.mk (blk_below (g := gb226) (o := .cells #[.string (⟨#[]⟩ : ByteArray), .int .i64 0, .string (⟨#[]⟩ : ByteArray), .int .u8 0, .int .u8 0, .int .u8 0, .int .u8 0, .int .u64 0] 33 (0, 0)) (by (with_reducible repeat (first | refine blk_drewN ?_ _ | refine blk_drew ?_ | refine blk_alloc ?_ _)); refine blk_far ?_ NB226_236.out _; (with_reducible repeat (first | refine blk_drewN ?_ _ | refine blk_drew ?_ | refine blk_alloc ?_ _)); exact BK226.out) hb); have n3_ := Aside0.mk (blk_below (g := gb236) (o := .cells #[.string ((rd_T57 t230 0).f1), .int .i64 (wrap64 (bt t231 0)), .string ((rd_T57 t241 0).f1), .int .u8 0, .int .u8 0, .int .u8 0, .int .u8 0, .int .u64 0] 33 (0, 0)) (by (with_reducible repeat (first | refine blk_drewN ?_ _ | refine blk_drew ?_ | refine blk_alloc ?_ _)); refine blk_put (cs := #[.string ((rd_T57 t230 0).f1), .int .i64 (wrap64 (bt t231 0)), .string (⟨#[]⟩ : ByteArray), .int .u8 0, .int .u8 0, .int .u8 0, .int .u8 0, .int .u64 0]) ?_ 2 _ rfl; (with_reducible repeat (first | refine blk_drewN ?_ _ | refine blk_drew ?_ | refine blk_alloc ?_ _)); exact BK236.out) hb); have n4_ := Aside0.mk (below_step (by repeat (first | (with_reducible first | exact HB.out | apply below_alloc | apply pw_below_drewN | apply below_drew1 | refine below_set ?_ GE226.out | refine below_set ?_ GE236.out) | exact HB.out)) hb); clear HO240; clear HO245; clear BK226; clear BK236; clear HB; have HO240 := n0_; have HO245 := n1_; have BK226 := n2_; have BK236 := n3_; have HB := n4_; clear n0_ n1_ n2_ n3_ n4_; (try clear hb); (try clear hb2); (try clear hk); (try clear hi)) | ((with_reducible refine gate_dst (N := 8) rfl ?_); (try (refine gate_guard (by rfl) ?_; dsimp only)); refine box_event ?hg (N := 8) ?hd (cs := #[.int .u8 0, .int .u8 0, .int .u8 0, .int .u8 0, .int .u64 0]) (t := 26) ?hr ?_; (case hd => rfl); (case hg => rfl); (case hr => first | (go_simp; done) | (go_simp; rfl)); intro gb253 hg w100 hbox hb; have n0_ := Aside0.mk (Kd.R_below (by (with_reducible repeat (first | apply Kd.R_alloc | apply Kd.R_drewN | apply Kd.R_drew)); exact HO240.out) hb); have n1_ := Aside0.mk (Kd.R_below (by (with_reducible repeat (first | apply Kd.R_alloc | apply Kd.R_drewN | apply Kd.R_drew)); exact HO245.out) hb); have n2_ := Aside0.mk (blk_below (g := gb226) (o := .cells #[.string (⟨#[]⟩ : ByteArray), .int .i64 0, .string (⟨#[]⟩ : ByteArray), .int .u8 0, .int .u8 0, .int .u8 0, .int .u8 0, .int .u64 0] 33 (0, 0)) (by (with_reducible repeat (first | refine blk_drewN ?_ _ | refine blk_drew ?_ | refine blk_alloc ?_ _)); exact BK226.out) hb); have n3_ := Aside0.mk (blk_below (g := gb236) (o := .cells #[.string ((rd_T57 t230 0).f1), .int .i64 (wrap64 (bt t231 0)), .string ((rd_T57 t241 0).f1), .int .u8 0, .int .u8 0, .int .u8 0, .int .u8 0, .int .u64 0] 33 (0, 0)) (by (with_reducible repeat (first | refine blk_drewN ?_ _ | refine blk_drew ?_ | refine blk_alloc ?_ _)); exact BK236.out) hb); have n4_ := Aside0.mk (below_step (by repeat (first | (with_reducible first | exact HB.out | apply below_alloc | apply pw_below_drewN | apply below_drew1 | refine below_set ?_ GE226.out | refine below_set ?_ GE236.out) | exact HB.out)) hb); have n5_ := Aside0.mk (hbox); have n6_ := Aside0.mk ((by rw [hg]; exact (below_size (by repeat (first | (with_reducible first | exact HB.out | apply below_alloc | apply pw_below_drewN | apply below_drew1 | refine below_set ?_ GE226.out | refine below_set ?_ GE236.out) | exact HB.out))) : w.heap.size ≤ gb253)); have n7_ := Aside0.mk ((by rw [hg]; exact (below_size (by repeat (first | (with_reducible first | exact HB.out | apply below_alloc | apply pw_below_drewN | apply below_drew1 | refine below_set ?_ GE226.out | refine below_set ?_ GE236.out) | exact HB.out))) : w.heap.size ≤ gb253)); have n8_ := Aside0.mk ((by rw [hg]; exact Nat.ne_of_lt (blk_lt (g := gb226) (o := .cells #[.string (⟨#[]⟩ : ByteArray), .int .i64 0, .string (⟨#[]⟩ : ByteArray), .int .u8 0, .int .u8 0, .int .u8 0, .int .u8 0, .int .u64 0] 33 (0, 0)) (by (with_reducible repeat (first | refine blk_drewN ?_ _ | refine blk_drew ?_ | refine blk_alloc ?_ _)); exact BK226.out)) : gb226 ≠ gb253)); have n9_ := Aside0.mk ((by rw [hg]; exact Nat.ne_of_gt (blk_lt (g := gb226) (o := .cells #[.string (⟨#[]⟩ : ByteArray), .int .i64 0, .string (⟨#[]⟩ : ByteArray), .int .u8 0, .int .u8 0, .int .u8 0, .int .u8 0, .int .u64 0] 33 (0, 0)) (by (with_reducible repeat (first | refine blk_drewN ?_ _ | refine blk_drew ?_ | refine blk_alloc ?_ _)); exact BK226.out)) : gb253 ≠ gb226)); have n10_ := Aside0.mk ((by rw [hg]; exact Nat.ne_of_lt (blk_lt (g := gb236) (o := .cells #[.string ((rd_T57 t230 0).f1), .int .i64 (wrap64 (bt t231 0)), .string ((rd_T57 t241 0).f1), .int .u8 0, .int .u8 0, .int .u8 0, .int .u8 0, .int .u64 0] 33 (0, 0)) (by (with_reducible repeat (first | refine blk_drewN ?_ _ | refine blk_drew ?_ | refine blk_alloc ?_ _)); exact BK236.out)) : gb236 ≠ gb253)); have n11_ := Aside0.mk ((by rw [hg]; exact Nat.ne_of_gt (blk_lt (g := gb236) (o := .cells #[.string ((rd_T57 t230 0).f1), .int .i64 (wrap64 (bt t231 0)), .string ((rd_T57 t241 0).f1), .int .u8 0, .int .u8 0, .int .u8 0, .int .u8 0, .int .u64 0] 33 (0, 0)) (by (with_reducible repeat (first | refine blk_drewN ?_ _ | refine blk_drew ?_ | refine blk_alloc ?_ _)); exact BK236.out)) : gb253 ≠ gb236)); clear HO240; clear HO245; clear BK226; clear BK236; clear HB; have HO240 := n0_; have HO245 := n1_; have BK226 := n2_; have BK236 := n3_; have HB := n4_; have BK253 := n5_; have GW253 := n6_; have GE253 := n7_; have NB226_253 := n8_; have NB253_226 := n9_; have NB236_253 := n10_; have NB253_236 := n11_; clear n0_ n1_ n2_ n3_ n4_ n5_ n6_ n7_ n8_ n9_ n10_ n11_; clear hb hbox hg; have hnb101 := NB253_226.out; have hnc101 := NB226_253.out; have hnb102 := NB253_236.out; have hnc102 := NB236_253.out; have hcz103_0 : w100.cell? ⟨gb253, 0, none⟩ = some (.int .u8 0) := (blk_cell BK253.out 0).trans rfl; have hcz103_1 : w100.cell? ⟨gb253, 1, none⟩ = some (.int .u8 0) := (blk_cell BK253.out 1).trans rfl; have hcz103_2 : w100.cell? ⟨gb253, 2, none⟩ = some (.int .u8 0) := (blk_cell BK253.out 2).trans rfl; have hcz103_3 : w100.cell? ⟨gb253, 3, none⟩ = some (.int .u8 0) := (blk_cell BK253.out 3).trans rfl; have hcz103_4 : w100.cell? ⟨gb253, 4, none⟩ = some (.int .u64 0) := (blk_cell BK253.out 4).trans rfl; have hfz103_0 := blk_frozen BK253.out 0; have hfz103_1 := blk_frozen BK253.out 1; have hfz103_2 := blk_frozen BK253.out 2; have hfz103_3 := blk_frozen BK253.out 3; have hfz103_4 := blk_frozen BK253.out 4; have hcz104_0 : w100.cell? ⟨gb236, 0, none⟩ = some (.string ((rd_T57 t230 0).f1)) := (blk_cell BK236.out 0).trans rfl; have hcz104_1 : w100.cell? ⟨gb236, 1, none⟩ = some (.int .i64 (wrap64 (bt t231 0))) := (blk_cell BK236.out 1).trans rfl; have hcz104_2 : w100.cell? ⟨gb236, 2, none⟩ = some (.string ((rd_T57 t241 0).f1)) := (blk_cell BK236.out 2).trans rfl; have hcz104_3 : w100.cell? ⟨gb236, 3, none⟩ = some (.int .u8 0) := (blk_cell BK236.out 3).trans rfl; have hcz104_4 : w100.cell? ⟨gb236, 4, none⟩ = some (.int .u8 0) := (blk_cell BK236.out 4).trans rfl; have hcz104_5 : w100.cell? ⟨gb236, 5, none⟩ = some (.int .u8 0) := (blk_cell BK236.out 5).trans rfl; have hcz104_6 : w100.cell? ⟨gb236, 6, none⟩ = some (.int .u8 0) := (blk_cell BK236.out 6).trans rfl; have hcz104_7 : w100.cell? ⟨gb236, 7, none⟩ = some (.int .u64 0) := (blk_cell BK236.out 7).trans rfl; have hfz104_0 := blk_frozen BK236.out 0; have hfz104_1 := blk_frozen BK236.out 1; have hfz104_2 := blk_frozen BK236.out 2; have hfz104_3 := blk_frozen BK236.out 3; have hfz104_4 := blk_frozen BK236.out 4; have hfz104_5 := blk_frozen BK236.out 5; have hfz104_6 := blk_frozen BK236.out 6; have hfz104_7 := blk_frozen BK236.out 7; have hcz105_0 : w100.cell? ⟨gb226, 0, none⟩ = some (.string (⟨#[]⟩ : ByteArray)) := (blk_cell BK226.out 0).trans rfl; have hcz105_1 : w100.cell? ⟨gb226, 1, none⟩ = some (.int .i64 0) := (blk_cell BK226.out 1).trans rfl; have hcz105_2 : w100.cell? ⟨gb226, 2, none⟩ = some (.string (⟨#[]⟩ : ByteArray)) := (blk_cell BK226.out 2).trans rfl; have hcz105_3 : w100.cell? ⟨gb226, 3, none⟩ = some (.int .u8 0) := (blk_cell BK226.out 3).trans rfl; have hcz105_4 : w100.cell? ⟨gb226, 4, none⟩ = some (.int .u8 0) := (blk_cell BK226.out 4).trans rfl; have hcz105_5 : w100.cell? ⟨gb226, 5, none⟩ = some (.int .u8 0) := (blk_cell BK226.out 5).trans rfl; have hcz105_6 : w100.cell? ⟨gb226, 6, none⟩ = some (.int .u8 0) := (blk_cell BK226.out 6).trans rfl; have hcz105_7 : w100.cell? ⟨gb226, 7, none⟩ = some (.int .u64 0) := (blk_cell BK226.out 7).trans rfl; have hfz105_0 := blk_frozen BK226.out 0; have hfz105_1 := blk_frozen BK226.out 1; have hfz105_2 := blk_frozen BK226.out 2; have hfz105_3 := blk_frozen BK226.out 3; have hfz105_4 := blk_frozen BK226.out 4; have hfz105_5 := blk_frozen BK226.out 5; have hfz105_6 := blk_frozen BK226.out 6; have hfz105_7 := blk_frozen BK226.out 7))
                                    refine bodyPost_ret (results_ct rfl _ _ gb226 33 #[.string (⟨#[]⟩ : ByteArray), .int .i64 0, .string (⟨#[]⟩ : ByteArray), .int .u8 0, .int .u8 0, .int .u8 0, .int .u8 0, .int .u64 0] (0, 0) _ rfl (by (with_reducible repeat (first | refine blk_drewN ?_ _ | refine blk_drew ?_ | refine blk_alloc ?_ _)); refine blk_put (cs := #[.string (⟨#[]⟩ : ByteArray), .int .i64 0, .string (⟨#[]⟩ : ByteArray), .int .u8 0, .int .u8 0, .int .u8 0, .int .u8 0, .int .u64 0]) ?_ 7 _ rfl; (with_reducible repeat (first | refine blk_drewN ?_ _ | refine blk_drew ?_ | refine blk_alloc ?_ _)); refine blk_put (cs := #[.string (⟨#[]⟩ : ByteArray), .int .i64 0, .string (⟨#[]⟩ : ByteArray), .int .u8 0, .int .u8 0, .int .u8 0, .int .u8 0, .int .u64 0]) ?_ 6 _ rfl; (with_reducible repeat (first | refine blk_drewN ?_ _ | refine blk_drew ?_ | refine blk_alloc ?_ _)); refine blk_put (cs := #[.string (⟨#[]⟩ : ByteArray), .int .i64 0, .string (⟨#[]⟩ : ByteArray), .int .u8 0, .int .u8 0, .int .u8 0, .int .u8 0, .int .u64 0]) ?_ 5 _ rfl; (with_reducible repeat (first | refine blk_drewN ?_ _ | refine blk_drew ?_ | refine blk_alloc ?_ _)); refine blk_put (cs := #[.string (⟨#[]⟩ : ByteArray), .int .i64 0, .string (⟨#[]⟩ : ByteArray), .int .u8 0, .int .u8 0, .int .u8 0, .int .u8 0, .int .u64 0]) ?_ 4 _ rfl; (with_reducible repeat (first | refine blk_drewN ?_ _ | refine blk_drew ?_ | refine blk_alloc ?_ _)); refine blk_put (cs := #[.string (⟨#[]⟩ : ByteArray), .int .i64 0, .string (⟨#[]⟩ : ByteArray), .int .u8 0, .int .u8 0, .int .u8 0, .int .u8 0, .int .u64 0]) ?_ 3 _ rfl; (with_reducible repeat (first | refine blk_drewN ?_ _ | refine blk_drew ?_ | refine blk_alloc ?_ _)); refine blk_put (cs := #[.string (⟨#[]⟩ : ByteArray), .int .i64 0, .string (⟨#[]⟩ : ByteArray), .int .u8 0, .int .u8 0, .int .u8 0, .int .u8 0, .int .u64 0]) ?_ 2 _ rfl; (with_reducible repeat (first | refine blk_drewN ?_ _ | refine blk_drew ?_ | refine blk_alloc ?_ _)); refine blk_put (cs := #[.string (⟨#[]⟩ : ByteArray), .int .i64 0, .string (⟨#[]⟩ : ByteArray), .int .u8 0, .int .u8 0, .int .u8 0, .int .u8 0, .int .u64 0]) ?_ 1 _ rfl; (with_reducible repeat (first | refine blk_drewN ?_ _ | refine blk_drew ?_ | refine blk_alloc ?_ _)); refine blk_put (cs := #[.string (⟨#[]⟩ : ByteArray), .int .i64 0, .string (⟨#[]⟩ : ByteArray), .int .u8 0, .int .u8 0, .int .u8 0, .int .u8 0, .int .u64 0]) ?_ 0 _ rfl; (with_reducible repeat (first | refine blk_drewN ?_ _ | refine blk_drew ?_ | refine blk_alloc ?_ _)); refine blk_far ?_ NB226_236.out _; (with_reducible repeat (first | refine blk_drewN ?_ _ | refine blk_drew ?_ | refine blk_alloc ?_ _)); refine blk_far ?_ NB226_236.out _; (with_reducible repeat (first | refine blk_drewN ?_ _ | refine blk_drew ?_ | refine blk_alloc ?_ _)); refine blk_far ?_ NB226_236.out _; (with_reducible repeat (first | refine blk_drewN ?_ _ | refine blk_drew ?_ | refine blk_alloc ?_ _)); refine blk_far ?_ NB226_236.out _; (with_reducible repeat (first | refine blk_drewN ?_ _ | refine blk_drew ?_ | refine blk_alloc ?_ _)); refine blk_far ?_ NB226_236.out _; (with_reducible repeat (first | refine blk_drewN ?_ _ | refine blk_drew ?_ | refine blk_alloc ?_ _)); refine blk_far ?_ NB226_253.out _; (with_reducible repeat (first | refine blk_drewN ?_ _ | refine blk_drew ?_ | refine blk_alloc ?_ _)); refine blk_far ?_ NB226_253.out _; (with_reducible repeat (first | refine blk_drewN ?_ _ | refine blk_drew ?_ | refine blk_alloc ?_ _)); refine blk_far ?_ NB226_253.out _; (with_reducible repeat (first | refine blk_drewN ?_ _ | refine blk_drew ?_ | refine blk_alloc ?_ _)); refine blk_far ?_ NB226_253.out _; (with_reducible repeat (first | refine blk_drewN ?_ _ | refine blk_drew ?_ | refine blk_alloc ?_ _)); refine blk_far ?_ NB226_253.out _; (with_reducible repeat (first | refine blk_drewN ?_ _ | refine blk_drew ?_ | refine blk_alloc ?_ _)); exact BK226.out) Tryd.underlying33 rfl (by kernel_rfl)) rfl ?_
                                    exact ⟨by first | rfl | (simp [errW_none, errW_some] <;> rfl) | (simp [*, errW_none, errW_some] <;> rfl), by repeat (first | (with_reducible first | exact HB.out | apply below_alloc | apply pw_below_drewN | apply below_drew1 | refine below_set ?_ GE226.out | refine below_set ?_ GE236.out | refine below_set ?_ GE253.out) | exact HB.out)⟩
                                · rw [if_neg c56] at H
                                  exact absurd H (by simp)
                              · rw [if_neg c55] at H
                                have c55b0 : (t243 == 0) = false := beq_eq_false_iff_ne.mpr c55
                                have c55b1 : (t243 != 0) = true := bne_iff_ne.mpr c55
                                simp only [Option.some.injEq, Prod.mk.injEq] at H
                                obtain ⟨rfl, rfl, rfl, rfl, rfl, rfl, rfl, rfl, rfl⟩ := H
                                have hnb106 := NB236_226.out
                                have hnc106 := NB226_236.out
                                have hcz107_0 : wc.cell? ⟨gb236, 0, none⟩ = some (.string ((rd_T57 t230 0).f1)) := (blk_cell BK236.out 0).trans rfl
                                have hcz107_1 : wc.cell? ⟨gb236, 1, none⟩ = some (.int .i64 (wrap64 (bt t231 0))) := (blk_cell BK236.out 1).trans rfl
                                have hcz107_2 : wc.cell? ⟨gb236, 2, none⟩ = some (.string (⟨#[]⟩ : ByteArray)) := (blk_cell BK236.out 2).trans rfl
                                have hcz107_3 : wc.cell? ⟨gb236, 3, none⟩ = some (.int .u8 0) := (blk_cell BK236.out 3).trans rfl
                                have hcz107_4 : wc.cell? ⟨gb236, 4, none⟩ = some (.int .u8 0) := (blk_cell BK236.out 4).trans rfl
                                have hcz107_5 : wc.cell? ⟨gb236, 5, none⟩ = some (.int .u8 0) := (blk_cell BK236.out 5).trans rfl
                                have hcz107_6 : wc.cell? ⟨gb236, 6, none⟩ = some (.int .u8 0) := (blk_cell BK236.out 6).trans rfl
                                have hcz107_7 : wc.cell? ⟨gb236, 7, none⟩ = some (.int .u64 0) := (blk_cell BK236.out 7).trans rfl
                                have hfz107_0 := blk_frozen BK236.out 0
                                have hfz107_1 := blk_frozen BK236.out 1
                                have hfz107_2 := blk_frozen BK236.out 2
                                have hfz107_3 := blk_frozen BK236.out 3
                                have hfz107_4 := blk_frozen BK236.out 4
                                have hfz107_5 := blk_frozen BK236.out 5
                                have hfz107_6 := blk_frozen BK236.out 6
                                have hfz107_7 := blk_frozen BK236.out 7
                                go_wp2_with (first | ((with_reducible refine gate_dst (N := 67) rfl ?_); (try (refine gate_guard (by rfl) ?_; dsimp only)); refine Kd.R_lit (Kd.int .i64) _ 3 ?hg (N := 67) ?hd (xs := ([1] : List Int)) (inner := [.int .i64 1]) (ok := fun _ => True) (okp := fun _ => True) ?hr ?hp (fun _ hk => hk) trivial (Below.refl _ _) (Nat.le_refl _) (by simp) ?_; (case hd => rfl); (case hg => rfl); (case hr => first | (go_simp; done) | (go_simp; rfl)); (case hp => exact (Reps.one (show Kd.M (Kd.int .i64) _ _ _ 1 [.int .i64 1] from rfl) (Reps.none _ _))); intro v239 w108 ho109 hb hg_ hnew_; clear hg_ hnew_; (first | rw [← Ny238.out] at ho109 | (simp only [Int.reduceToNat] at ho109; rw [← Ny238.out] at ho109)); have n0_ := Aside0.mk (Kd.R_lower ho109 (below_size (by repeat (first | (with_reducible first | exact HB.out | apply below_alloc | apply pw_below_drewN | apply below_drew1 | refine below_set ?_ GE226.out | refine below_set ?_ GE236.out) | exact HB.out)))); have n1_ := Aside0.mk (blk_below (g := gb226) (o := .cells #[.string (⟨#[]⟩ : ByteArray), .int .i64 0, .string (⟨#[]⟩ : ByteArray), .int .u8 0, .int .u8 0, .int .u8 0, .int .u8 0, .int .u64 0] 33 (0, 0)) (by (with_reducible repeat (first | refine blk_drewN ?_ _ | refine blk_drew ?_ | refine blk_alloc ?_ _)); exact BK226.out) hb); have n2_ := Aside0.mk (blk_below (g := gb236) (o := .cells #[.string ((rd_T57 t230 0).f1), .int .i64 (wrap64 (bt t231 0)), .string (⟨#[]⟩ : ByteArray), .int .u8 0, .int .u8 0, .int .u8 0, .int .u8 0, .int .u64 0] 33 (0, 0)) (by (with_reducible repeat (first | refine blk_drewN ?_ _ | refine blk_drew ?_ | refine blk_alloc ?_ _)); exact BK236.out) hb); have n3_ := Aside0.mk (below_step (by repeat (first | (with_reducible first | exact HB.out | apply below_alloc | apply pw_below_drewN | apply below_drew1 | refine below_set ?_ GE226.out | refine below_set ?_ GE236.out) | exact HB.out)) hb); clear BK226; clear BK236; clear HB; have HO240 := n0_; have BK226 := n1_; have BK236 := n2_; have HB := n3_; clear n0_ n1_ n2_ n3_; clear hb ho109; obtain ⟨Ao110, co110, eo110⟩ := Kd.R_slice HO240.out; subst eo110) | ((with_reducible refine gate_callee (f := 24) rfl ?_); refine goesL_ (some 68) rfl rfl Tryd.func24 (by kernel_rfl) rfl #[.string (t231.extract 1 t231.size), .slice Ao110 y238.length co110] rfl (by (try simp only [List.map_toArray, List.map_cons, List.map_nil]); first | done | rfl | (simp only [List.length_drop, List.length_take]; rfl)) ?_; (with_reducible refine (cornucopiaref1_Get.calls kj24 (t231.extract 1 t231.size) _ _ y238 t241 t242 t243 _ ?side1 ?side2 A54.out).mono ?_); (case side1 => repeat (first | exact (Kd.R_reads' HO240.out).2.2 | (with_reducible refine Kd.C_alloc ?_ _) | (with_reducible refine Kd.C_drewN ?_ _) | (with_reducible refine Kd.C_drew ?_))); (case side2 => exact (Kd.R_reads' HO240.out).2.1); rintro e w111 ⟨v244, rfl, ho0, hb⟩; refine ⟨_, rfl, ?_⟩; have n0_ := Aside0.mk (Kd.R_below (by (with_reducible repeat (first | apply Kd.R_alloc | apply Kd.R_drewN | apply Kd.R_drew)); exact HO240.out) hb); have n1_ := Aside0.mk (Kd.R_lower ho0 (below_size (by repeat (first | (with_reducible first | exact HB.out | apply below_alloc | apply pw_below_drewN | apply below_drew1 | refine below_set ?_ GE226.out | refine below_set ?_ GE236.out) | exact HB.out)))); have n2_ := Aside0.mk (blk_below (g := gb226) (o := .cells #[.string (⟨#[]⟩ : ByteArray), .int .i64 0, .string (⟨#[]⟩ : ByteArray), .int .u8 0, .int .u8 0, .int .u8 0, .int .u8 0, .int .u64 0] 33 (0, 0)) (by (with_reducible repeat (first | refine blk_drewN ?_ _ | refine blk_drew ?_ | refine blk_alloc ?_ _)); exact BK226.out) hb); have n3_ := Aside0.mk (blk_below (g := gb236) (o := .cells #[.string ((rd_T57 t230 0).f1), .int .i64 (wrap64 (bt t231 0)), .string (⟨#[]⟩ : ByteArray), .int .u8 0, .int .u8 0, .int .u8 0, .int .u8 0, .int .u64 0] 33 (0, 0)) (by (with_reducible repeat (first | refine blk_drewN ?_ _ | refine blk_drew ?_ | refine blk_alloc ?_ _)); exact BK236.out) hb); have n4_ := Aside0.mk (below_step (by repeat (first | (with_reducible first | exact HB.out | apply below_alloc | apply pw_below_drewN | apply below_drew1 | refine below_set ?_ GE226.out | refine below_set ?_ GE236.out) | exact HB.out)) hb); clear HO240; clear BK226; clear BK236; clear HB; have HO240 := n0_; have HO245 := n1_; have BK226 := n2_; have BK236 := n3_; have HB := n4_; clear n0_ n1_ n2_ n3_ n4_; (try clear hb); (try clear hb2); (try clear hk); (try clear hi); (try clear ho0); have hcz112_0 : w111.cell? ⟨gb226, 0, none⟩ = some (.string (⟨#[]⟩ : ByteArray)) := (blk_cell BK226.out 0).trans rfl; have hcz112_1 : w111.cell? ⟨gb226, 1, none⟩ = some (.int .i64 0) := (blk_cell BK226.out 1).trans rfl; have hcz112_2 : w111.cell? ⟨gb226, 2, none⟩ = some (.string (⟨#[]⟩ : ByteArray)) := (blk_cell BK226.out 2).trans rfl; have hcz112_3 : w111.cell? ⟨gb226, 3, none⟩ = some (.int .u8 0) := (blk_cell BK226.out 3).trans rfl; have hcz112_4 : w111.cell? ⟨gb226, 4, none⟩ = some (.int .u8 0) := (blk_cell BK226.out 4).trans rfl; have hcz112_5 : w111.cell? ⟨gb226, 5, none⟩ = some (.int .u8 0) := (blk_cell BK226.out 5).trans rfl; have hcz112_6 : w111.cell? ⟨gb226, 6, none⟩ = some (.int .u8 0) := (blk_cell BK226.out 6).trans rfl; have hcz112_7 : w111.cell? ⟨gb226, 7, none⟩ = some (.int .u64 0) := (blk_cell BK226.out 7).trans rfl; have hfz112_0 := blk_frozen BK226.out 0; have hfz112_1 := blk_frozen BK226.out 1; have hfz112_2 := blk_frozen BK226.out 2; have hfz112_3 := blk_frozen BK226.out 3; have hfz112_4 := blk_frozen BK226.out 4; have hfz112_5 := blk_frozen BK226.out 5; have hfz112_6 := blk_frozen BK226.out 6; have hfz112_7 := blk_frozen BK226.out 7))
                                refine bodyPost_ret (results_ct rfl _ _ gb226 33 #[.string (⟨#[]⟩ : ByteArray), .int .i64 0, .string (⟨#[]⟩ : ByteArray), .int .u8 0, .int .u8 0, .int .u8 0, .int .u8 0, .int .u64 0] (0, 0) _ rfl (by (with_reducible repeat (first | refine blk_drewN ?_ _ | refine blk_drew ?_ | refine blk_alloc ?_ _)); refine blk_put (cs := #[.string (⟨#[]⟩ : ByteArray), .int .i64 0, .string (⟨#[]⟩ : ByteArray), .int .u8 0, .int .u8 0, .int .u8 0, .int .u8 0, .int .u64 0]) ?_ 7 _ rfl; (with_reducible repeat (first | refine blk_drewN ?_ _ | refine blk_drew ?_ | refine blk_alloc ?_ _)); refine blk_put (cs := #[.string (⟨#[]⟩ : ByteArray), .int .i64 0, .string (⟨#[]⟩ : ByteArray), .int .u8 0, .int .u8 0, .int .u8 0, .int .u8 0, .int .u64 0]) ?_ 6 _ rfl; (with_reducible repeat (first | refine blk_drewN ?_ _ | refine blk_drew ?_ | refine blk_alloc ?_ _)); refine blk_put (cs := #[.string (⟨#[]⟩ : ByteArray), .int .i64 0, .string (⟨#[]⟩ : ByteArray), .int .u8 0, .int .u8 0, .int .u8 0, .int .u8 0, .int .u64 0]) ?_ 5 _ rfl; (with_reducible repeat (first | refine blk_drewN ?_ _ | refine blk_drew ?_ | refine blk_alloc ?_ _)); refine blk_put (cs := #[.string (⟨#[]⟩ : ByteArray), .int .i64 0, .string (⟨#[]⟩ : ByteArray), .int .u8 0, .int .u8 0, .int .u8 0, .int .u8 0, .int .u64 0]) ?_ 4 _ rfl; (with_reducible repeat (first | refine blk_drewN ?_ _ | refine blk_drew ?_ | refine blk_alloc ?_ _)); refine blk_put (cs := #[.string (⟨#[]⟩ : ByteArray), .int .i64 0, .string (⟨#[]⟩ : ByteArray), .int .u8 0, .int .u8 0, .int .u8 0, .int .u8 0, .int .u64 0]) ?_ 3 _ rfl; (with_reducible repeat (first | refine blk_drewN ?_ _ | refine blk_drew ?_ | refine blk_alloc ?_ _)); refine blk_put (cs := #[.string (⟨#[]⟩ : ByteArray), .int .i64 0, .string (⟨#[]⟩ : ByteArray), .int .u8 0, .int .u8 0, .int .u8 0, .int .u8 0, .int .u64 0]) ?_ 2 _ rfl; (with_reducible repeat (first | refine blk_drewN ?_ _ | refine blk_drew ?_ | refine blk_alloc ?_ _)); refine blk_put (cs := #[.string (⟨#[]⟩ : ByteArray), .int .i64 0, .string (⟨#[]⟩ : ByteArray), .int .u8 0, .int .u8 0, .int .u8 0, .int .u8 0, .int .u64 0]) ?_ 1 _ rfl; (with_reducible repeat (first | refine blk_drewN ?_ _ | refine blk_drew ?_ | refine blk_alloc ?_ _)); refine blk_put (cs := #[.string (⟨#[]⟩ : ByteArray), .int .i64 0, .string (⟨#[]⟩ : ByteArray), .int .u8 0, .int .u8 0, .int .u8 0, .int .u8 0, .int .u64 0]) ?_ 0 _ rfl; (with_reducible repeat (first | refine blk_drewN ?_ _ | refine blk_drew ?_ | refine blk_alloc ?_ _)); exact BK226.out) Tryd.underlying33 rfl (by kernel_rfl)) rfl ?_
                                exact ⟨by first | rfl | (simp [errW_none, errW_some] <;> rfl) | (simp [*, errW_none, errW_some] <;> rfl), by repeat (first | (with_reducible first | exact HB.out | apply below_alloc | apply pw_below_drewN | apply below_drew1 | refine below_set ?_ GE226.out | refine below_set ?_ GE236.out) | exact HB.out)⟩
                            · rw [if_neg c53] at H
                              exact absurd H (by simp)
                  · rw [if_neg c23] at H
                    exact absurd H (by simp)
                · rw [if_neg c22] at H
                  exact absurd H (by simp)
        · rw [if_neg c9] at H
          exact absurd H (by simp)

end Go.Proofs.YtdigpaniganndaaDoor.PAll
